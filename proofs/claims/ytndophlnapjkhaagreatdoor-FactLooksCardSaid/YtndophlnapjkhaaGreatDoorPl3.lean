/- Laws and walks for what the last text proves, part 3: FactLooks of the layer 'fact'. Conditions: those of each statement. -/
import Derived.ArgAppend
import Derived.Test.YtndophlnapjkhaaGreatDoorPl2
set_option linter.unusedVariables false
set_option linter.unusedSimpArgs false
set_option linter.unusedSectionVars false
namespace Go.Proofs.YtndophlnapjkhaaGreatDoor.Vc
open Go Go.RowKit
set_option linter.unusedVariables false
set_option linter.unusedSimpArgs false
def plainOn (s : GNode) : List (ByteArray × Int) → Option FP
  | [] => some []
  | (key, tl) :: r => if idxV (idxS s.keys key) < 0 then none else (plainOn s r).map ((iat s.l (idxV (idxS s.keys key)), tl) :: ·)
def oddF (s t : GNode) : Bool := !decide (s.kind = t.kind) || !decide (s.name = t.name) || !decide (s.num = t.num)
def plainR (s t : GNode) : FP × Bool :=
  if oddF s t then ([], false) else if s.kind = 9 then ([(iat s.l 0, iat t.l 0)], true)
  else match plainOn s (t.keys.zip t.l) with
    | none => ([], false)
    | some on => (on, true)
def plainF (g : List GNode) (f : Fact) : Bool × FP × Bool := (true, (plainR (gat g f.a) (chosenF g f)).1, (plainR (gat g f.a) (chosenF g f)).2)
theorem NodeIs.keys {g : List GNode} {x : GNode} (h : NodeIs g x) {k : Nat} (hk : k < x.keys.length) : x.l.length = x.keys.length ∧ x.kind = 7 ∧ risesB x.keys = true := by
  rcases h with ⟨_, _, hk1, _⟩ | ⟨_, _, hk1, _⟩ | ⟨h, hl, hr, _⟩ | ⟨_, _, _, _, hk1, _⟩ | ⟨_, _, hk1, _⟩
  · rw [hk1] at hk; simp at hk
  · rw [hk1] at hk; simp at hk
  · exact ⟨hl, h, hr⟩
  · rw [hk1] at hk; simp at hk
  · rw [hk1] at hk; simp at hk
theorem plainOn_step (s : GNode) {ks : List ByteArray} {l : List Int} {k : Nat} {key : ByteArray} {x : Int} (h1 : ks[k]? = some key) (h2 : l[k]? = some x) : plainOn s ((ks.zip l).drop k) = if idxV (idxS s.keys key) < 0 then none else (plainOn s ((ks.zip l).drop (k + 1))).map ((iat s.l (idxV (idxS s.keys key)), x) :: ·) := by
  rw [zip_at h1 h2, plainOn]
theorem plain_calls (w0 : World) (xb : Nat) (Ag : Option Addr) (cg : Nat) (g : List GNode) (hg : Nodes w0 Ag cg g) (hok : GraphOk g) (hx0 : w0.cell? ⟨xb, 0, none⟩ = some (.slice Ag g.length cg)) (f : Fact) (Aw : Option Addr) (cw : Nat) (hw : Ints w0 Aw cw f.why) (hf : FactOk g f) (h8 : (gat g f.a).kind ≠ 8) (hi : 0 ≤ iat f.why 0 ∧ iat f.why 0 < (membersG g f.b).length) (hpos : 0 < f.why.length) :
    Calls Tryz.prog 97 [.pointer (some ⟨xb, 0, none⟩), .agg (factCells f Aw cw).toArray].toArray w0 (RuleRes w0 (plainF g f)) := by
  have hE : Ext0 w0 w0 := Ext.refl _ _
  have hL : Has w0 [] := trivial
  have hch := chosen_in hok hi
  have his := hok.is (gat_mem' hf.a.1 hf.a.2)
  have hit := hok.is (gat_mem' hch.1 hch.2.1)
  have hbig := hok.fits.lists _ (gat_mem' hch.1 hch.2.1)
  obtain ⟨s, hs⟩ : ∃ s, s = gat g f.a := ⟨_, rfl⟩
  obtain ⟨t, ht⟩ : ∃ t, t = chosenF g f := ⟨_, rfl⟩
  obtain ⟨Ak, ck, Al, cl, hcell, hsk, hsl⟩ := hg.node f.a hf.a.1 hf.a.2
  unfold plainF
  rw [← hs] at hcell hsk hsl his h8 ⊢
  rw [show gat g (iat (membersG g f.b) (iat f.why 0)) = t from ht.symm] at hit hbig
  have ht8 : t.kind ≠ 8 := by rw [ht]; exact hch.2.2
  rw [← ht]
  obtain ⟨Bk, dk, Bl, dl, hcell2, htk, htl⟩ := hg.node _ hch.1 hch.2.1
  rw [show gat g (iat (membersG g f.b) (iat f.why 0)) = t from ht.symm] at hcell2 htk htl
  have hps := his.plain h8
  have hpt := hit.plain ht8
  refine calls [4, 5, 6] Tryz.func97 rfl rfl rfl rfl ?_
  refine c_seq ?_
  refine c_ops ?_
  refine l_new rfl rfl rfl (n_box rfl hL hE) ?_
  rintro _ w ⟨b3, rfl, hb3, hL, hE, hX⟩
  refine l_val rfl rfl rfl (r_assign rfl) ?_
  refine l_val rfl rfl rfl (r_assign rfl) ?_
  refine l_val rfl rfl rfl (r_assign rfl) ?_
  refine l_nil ?_
  refine c_merge [7, 8, 13, 14, 15, 16, 17, 18, 19, 20, 21, 22, 23] (fun e w => ∃ b7 b8, e 7 = .pointer (some ⟨b7, 0, none⟩) ∧ e 8 = .pointer (some ⟨b8, 0, none⟩) ∧ Has w [.blk b8 (.cells (nodeCells t Bk dk Bl dl).toArray 46 (0, 0)), .blk b7 (.cells (nodeCells s Ak ck Al cl).toArray 46 (0, 0)), .blk b3 (.cells (factCells f Aw cw).toArray 43 (0, 0))] ∧ Ext0 w0 w) ?_ ?_
  · skip
 
    refine c_draw mixed (hL) hE ?_
    replace hL := hL.drew
    replace hE := hE.drew
    have hK := hL
    refine h_t 0 rfl rfl (by kernel_rfl) (fun _ _ _ h => h) ⟨hK, hE⟩ rfl (fun W hW => r_move rfl) ?_
    refine h_t 1 rfl rfl (by kernel_rfl) (fun _ _ _ h => h) ⟨hK, hE⟩ rfl (fun W hW => r_nilCheck rfl rfl) ?_
    refine h_t 2 rfl rfl (by kernel_rfl) (fun _ _ _ h => h) ⟨hK, hE⟩ rfl (fun W hW => r_fieldAddr (n := 0) rfl Tryz.underlying51 rfl Tryz.sizeOf22 rfl) ?_
    refine h_t 3 rfl rfl (by kernel_rfl) (fun _ _ _ h => h) ⟨hK, hE⟩ rfl (fun W hW => r_load rfl Tryz.isAgg22 rfl (Ext0.cells hW.2 _ _ hx0)) ?_
    refine h_t 4 rfl rfl (by kernel_rfl) (fun _ _ _ h => h) ⟨hK, hE⟩ rfl (fun W hW => r_fieldAddr (n := 0) rfl Tryz.underlying43 rfl Tryz.sizeOf3 rfl) ?_
    refine h_t 5 rfl rfl (by kernel_rfl) (fun _ _ _ h => h) ⟨hK, hE⟩ rfl (fun W hW => r_load_blk rfl Tryz.isAgg3 rfl (hW.1.get 0 rfl) rfl) ?_
    refine h_t 6 rfl rfl (by kernel_rfl) (fun _ _ _ h => h) ⟨hK, hE⟩ rfl (fun W hW => r_indexAddr_sl rfl Tryz.underlying22 Tryz.sizeOf46 rfl hg.is rfl hf.a.1 hf.a.2) ?_
    refine h_t 7 rfl rfl (by kernel_rfl) (fun _ _ _ h => h) ⟨hK, hE⟩ rfl (fun W hW => r_load_agg (vs := nodeCells s Ak ck Al cl) rfl Tryz.isAgg46 Tryz.sizeOf46 rfl (fun j v hj => Ext0.cells hW.2 _ _ (hcell j v hj))) ?_
    refine h_t 8 rfl rfl (by kernel_rfl) (fun _ _ _ h => h) ⟨hK, hE⟩ rfl (fun W hW => r_move rfl) ?_
    refine h_t 9 rfl rfl (by kernel_rfl) (fun _ _ _ h => h) ⟨hK, hE⟩ rfl (fun W hW => r_load_blk_agg rfl Tryz.isAgg43 Tryz.sizeOf43 rfl (hW.1.get 0 rfl) rfl) ?_
    refine h_many [10, 11, 12] (by kernel_rfl) ⟨?_, ?_, ?_, trivial⟩
    · refine o_by 10 rfl rfl rfl rfl (r_call rfl rfl Tryz.func85 rfl rfl) (chosen_calls _ xb Ag cg g (hg.keep RNode.kept (Ext0.cells hE)) hok (Ext0.cells hE _ _ hx0) f Aw cw (hw.keep RInt.kept (Ext0.cells hE)) hf hi hpos Bk dk Bl dl (fun j v hj => by rw [← ht] at hj; exact Ext0.cells hE _ _ (hcell2 j v hj))) ?_
      rintro _ w ⟨rfl, hX⟩
      replace hL := hL.ext0 hX
      replace hE := hE.trans hX
      rw [← ht]
      have hK := hL
      refine ⟨_, rfl, ⟨hK, hE⟩, ?_⟩
      refine h_many [11, 12] (by kernel_rfl) ⟨?_, ?_, trivial⟩
      · refine o_new 11 rfl rfl rfl rfl (n_alloc rfl Tryz.zeroValue46 hL hE) ?_
        rintro _ w ⟨b7, rfl, hb7, hL, hE, hX⟩
        have hK := hL.sub (.cons _ (.cons_cons _ .slnil))
        refine ⟨⟨hK, hE⟩, ?_⟩
        refine h_new 12 rfl rfl (by kernel_rfl) rfl (n_alloc rfl Tryz.zeroValue46 hL hE) ?_
        rintro _ w ⟨b8, rfl, hb8, hL, hE, hX⟩
        have hK := hL.sub (.cons _ (.cons _ (.cons_cons _ .slnil)))
        refine ⟨⟨hK, hE⟩, ?_⟩
        refine h_new_do 13 rfl rfl (by kernel_rfl) rfl (r_store 1 rfl Tryz.sizeOf46 rfl hL hE rfl rfl rfl rfl (fun h => absurd h (Nat.not_lt.2 hb7))) ?_
        rintro w ⟨hL, hE, hz, hk⟩
        have hK := hL.sub (.cons _ (.cons _ (.cons_cons _ .slnil)))
        refine ⟨⟨hK, hE⟩, ?_⟩
        refine h_new_do 14 rfl rfl (by kernel_rfl) rfl (r_store 0 rfl Tryz.sizeOf46 rfl hL hE rfl rfl rfl rfl (fun h => absurd h (Nat.not_lt.2 hb8))) ?_
        rintro w ⟨hL, hE, hz, hk⟩
        have hK := hL.sub (.cons _ (.cons _ (.cons_cons _ .slnil)))
        refine ⟨⟨hK, hE⟩, ?_⟩
        refine h_done (by kernel_rfl) ?_
        refine ⟨by repeat (first | exact Agree.over _ _ _ | exact Agree.refl _ _ | (refine Agree.puto ?_ _ _ rfl) | (refine Agree.put ?_ _ _ rfl) | (refine Agree.sub ?_ rfl)), ?_⟩
        exact ⟨b7, b8, rfl, rfl, (((hL.front 2 rfl).front 2 rfl).front 2 rfl), hE⟩
      · refine o_new 12 rfl rfl rfl rfl (n_alloc rfl Tryz.zeroValue46 hL hE) ?_
        rintro _ w ⟨b8, rfl, hb8, hL, hE, hX⟩
        have hK := hL.sub (.cons _ (.cons_cons _ .slnil))
        refine ⟨⟨hK, hE⟩, ?_⟩
        refine h_new 11 rfl rfl (by kernel_rfl) rfl (n_alloc rfl Tryz.zeroValue46 hL hE) ?_
        rintro _ w ⟨b7, rfl, hb7, hL, hE, hX⟩
        have hK := hL.sub (.cons _ (.cons _ (.cons_cons _ .slnil)))
        refine ⟨⟨hK, hE⟩, ?_⟩
        refine h_new_do 13 rfl rfl (by kernel_rfl) rfl (r_store 0 rfl Tryz.sizeOf46 rfl hL hE rfl rfl rfl rfl (fun h => absurd h (Nat.not_lt.2 hb7))) ?_
        rintro w ⟨hL, hE, hz, hk⟩
        have hK := hL.sub (.cons _ (.cons _ (.cons_cons _ .slnil)))
        refine ⟨⟨hK, hE⟩, ?_⟩
        refine h_new_do 14 rfl rfl (by kernel_rfl) rfl (r_store 1 rfl Tryz.sizeOf46 rfl hL hE rfl rfl rfl rfl (fun h => absurd h (Nat.not_lt.2 hb8))) ?_
        rintro w ⟨hL, hE, hz, hk⟩
        have hK := hL.sub (.cons _ (.cons _ (.cons_cons _ .slnil)))
        refine ⟨⟨hK, hE⟩, ?_⟩
        refine h_done (by kernel_rfl) ?_
        refine ⟨by repeat (first | exact Agree.over _ _ _ | exact Agree.refl _ _ | (refine Agree.puto ?_ _ _ rfl) | (refine Agree.put ?_ _ _ rfl) | (refine Agree.sub ?_ rfl)), ?_⟩
        exact ⟨b7, b8, rfl, rfl, (((hL.front 2 rfl).front 1 rfl).front 2 rfl), hE⟩
    · refine o_new 11 rfl rfl rfl rfl (n_alloc rfl Tryz.zeroValue46 hL hE) ?_
      rintro _ w ⟨b7, rfl, hb7, hL, hE, hX⟩
      have hK := hL.sub (.cons _ (.cons_cons _ .slnil))
      refine ⟨⟨hK, hE⟩, ?_⟩
      refine h_many [10, 12] (by kernel_rfl) ⟨?_, ?_, trivial⟩
      · refine o_by 10 rfl rfl rfl rfl (r_call rfl rfl Tryz.func85 rfl rfl) (chosen_calls _ xb Ag cg g (hg.keep RNode.kept (Ext0.cells hE)) hok (Ext0.cells hE _ _ hx0) f Aw cw (hw.keep RInt.kept (Ext0.cells hE)) hf hi hpos Bk dk Bl dl (fun j v hj => by rw [← ht] at hj; exact Ext0.cells hE _ _ (hcell2 j v hj))) ?_
        rintro _ w ⟨rfl, hX⟩
        replace hL := hL.ext0 hX
        replace hE := hE.trans hX
        rw [← ht]
        have hK := hL.sub (.cons _ (.cons_cons _ .slnil))
        refine ⟨_, rfl, ⟨hK, hE⟩, ?_⟩
        refine h_new 12 rfl rfl (by kernel_rfl) rfl (n_alloc rfl Tryz.zeroValue46 hL hE) ?_
        rintro _ w ⟨b8, rfl, hb8, hL, hE, hX⟩
        have hK := hL.sub (.cons _ (.cons _ (.cons_cons _ .slnil)))
        refine ⟨⟨hK, hE⟩, ?_⟩
        refine h_new_do 13 rfl rfl (by kernel_rfl) rfl (r_store 1 rfl Tryz.sizeOf46 rfl hL hE rfl rfl rfl rfl (fun h => absurd h (Nat.not_lt.2 hb7))) ?_
        rintro w ⟨hL, hE, hz, hk⟩
        have hK := hL.sub (.cons _ (.cons _ (.cons_cons _ .slnil)))
        refine ⟨⟨hK, hE⟩, ?_⟩
        refine h_new_do 14 rfl rfl (by kernel_rfl) rfl (r_store 0 rfl Tryz.sizeOf46 rfl hL hE rfl rfl rfl rfl (fun h => absurd h (Nat.not_lt.2 hb8))) ?_
        rintro w ⟨hL, hE, hz, hk⟩
        have hK := hL.sub (.cons _ (.cons _ (.cons_cons _ .slnil)))
        refine ⟨⟨hK, hE⟩, ?_⟩
        refine h_done (by kernel_rfl) ?_
        refine ⟨by repeat (first | exact Agree.over _ _ _ | exact Agree.refl _ _ | (refine Agree.puto ?_ _ _ rfl) | (refine Agree.put ?_ _ _ rfl) | (refine Agree.sub ?_ rfl)), ?_⟩
        exact ⟨b7, b8, rfl, rfl, (((hL.front 2 rfl).front 2 rfl).front 2 rfl), hE⟩
      · refine o_new 12 rfl rfl rfl rfl (n_alloc rfl Tryz.zeroValue46 hL hE) ?_
        rintro _ w ⟨b8, rfl, hb8, hL, hE, hX⟩
        have hK := hL.sub (.cons _ (.cons _ (.cons_cons _ .slnil)))
        refine ⟨⟨hK, hE⟩, ?_⟩
        refine h_by 10 rfl rfl (by kernel_rfl) rfl (r_call rfl rfl Tryz.func85 rfl rfl) (chosen_calls _ xb Ag cg g (hg.keep RNode.kept (Ext0.cells hE)) hok (Ext0.cells hE _ _ hx0) f Aw cw (hw.keep RInt.kept (Ext0.cells hE)) hf hi hpos Bk dk Bl dl (fun j v hj => by rw [← ht] at hj; exact Ext0.cells hE _ _ (hcell2 j v hj))) ?_
        rintro _ w ⟨rfl, hX⟩
        replace hL := hL.ext0 hX
        replace hE := hE.trans hX
        rw [← ht]
        have hK := hL.sub (.cons _ (.cons _ (.cons_cons _ .slnil)))
        refine ⟨_, rfl, ⟨hK, hE⟩, ?_⟩
        refine h_new_do 13 rfl rfl (by kernel_rfl) rfl (r_store 1 rfl Tryz.sizeOf46 rfl hL hE rfl rfl rfl rfl (fun h => absurd h (Nat.not_lt.2 hb7))) ?_
        rintro w ⟨hL, hE, hz, hk⟩
        have hK := hL.sub (.cons _ (.cons _ (.cons_cons _ .slnil)))
        refine ⟨⟨hK, hE⟩, ?_⟩
        refine h_new_do 14 rfl rfl (by kernel_rfl) rfl (r_store 0 rfl Tryz.sizeOf46 rfl hL hE rfl rfl rfl rfl (fun h => absurd h (Nat.not_lt.2 hb8))) ?_
        rintro w ⟨hL, hE, hz, hk⟩
        have hK := hL.sub (.cons _ (.cons _ (.cons_cons _ .slnil)))
        refine ⟨⟨hK, hE⟩, ?_⟩
        refine h_done (by kernel_rfl) ?_
        refine ⟨by repeat (first | exact Agree.over _ _ _ | exact Agree.refl _ _ | (refine Agree.puto ?_ _ _ rfl) | (refine Agree.put ?_ _ _ rfl) | (refine Agree.sub ?_ rfl)), ?_⟩
        exact ⟨b7, b8, rfl, rfl, (((hL.front 2 rfl).front 2 rfl).front 2 rfl), hE⟩
    · refine o_new 12 rfl rfl rfl rfl (n_alloc rfl Tryz.zeroValue46 hL hE) ?_
      rintro _ w ⟨b8, rfl, hb8, hL, hE, hX⟩
      have hK := hL.sub (.cons _ (.cons_cons _ .slnil))
      refine ⟨⟨hK, hE⟩, ?_⟩
      refine h_many [10, 11] (by kernel_rfl) ⟨?_, ?_, trivial⟩
      · refine o_by 10 rfl rfl rfl rfl (r_call rfl rfl Tryz.func85 rfl rfl) (chosen_calls _ xb Ag cg g (hg.keep RNode.kept (Ext0.cells hE)) hok (Ext0.cells hE _ _ hx0) f Aw cw (hw.keep RInt.kept (Ext0.cells hE)) hf hi hpos Bk dk Bl dl (fun j v hj => by rw [← ht] at hj; exact Ext0.cells hE _ _ (hcell2 j v hj))) ?_
        rintro _ w ⟨rfl, hX⟩
        replace hL := hL.ext0 hX
        replace hE := hE.trans hX
        rw [← ht]
        have hK := hL.sub (.cons _ (.cons_cons _ .slnil))
        refine ⟨_, rfl, ⟨hK, hE⟩, ?_⟩
        refine h_new 11 rfl rfl (by kernel_rfl) rfl (n_alloc rfl Tryz.zeroValue46 hL hE) ?_
        rintro _ w ⟨b7, rfl, hb7, hL, hE, hX⟩
        have hK := hL.sub (.cons _ (.cons _ (.cons_cons _ .slnil)))
        refine ⟨⟨hK, hE⟩, ?_⟩
        refine h_new_do 13 rfl rfl (by kernel_rfl) rfl (r_store 0 rfl Tryz.sizeOf46 rfl hL hE rfl rfl rfl rfl (fun h => absurd h (Nat.not_lt.2 hb7))) ?_
        rintro w ⟨hL, hE, hz, hk⟩
        have hK := hL.sub (.cons _ (.cons _ (.cons_cons _ .slnil)))
        refine ⟨⟨hK, hE⟩, ?_⟩
        refine h_new_do 14 rfl rfl (by kernel_rfl) rfl (r_store 1 rfl Tryz.sizeOf46 rfl hL hE rfl rfl rfl rfl (fun h => absurd h (Nat.not_lt.2 hb8))) ?_
        rintro w ⟨hL, hE, hz, hk⟩
        have hK := hL.sub (.cons _ (.cons _ (.cons_cons _ .slnil)))
        refine ⟨⟨hK, hE⟩, ?_⟩
        refine h_done (by kernel_rfl) ?_
        refine ⟨by repeat (first | exact Agree.over _ _ _ | exact Agree.refl _ _ | (refine Agree.puto ?_ _ _ rfl) | (refine Agree.put ?_ _ _ rfl) | (refine Agree.sub ?_ rfl)), ?_⟩
        exact ⟨b7, b8, rfl, rfl, (((hL.front 2 rfl).front 1 rfl).front 2 rfl), hE⟩
      · refine o_new 11 rfl rfl rfl rfl (n_alloc rfl Tryz.zeroValue46 hL hE) ?_
        rintro _ w ⟨b7, rfl, hb7, hL, hE, hX⟩
        have hK := hL.sub (.cons _ (.cons _ (.cons_cons _ .slnil)))
        refine ⟨⟨hK, hE⟩, ?_⟩
        refine h_by 10 rfl rfl (by kernel_rfl) rfl (r_call rfl rfl Tryz.func85 rfl rfl) (chosen_calls _ xb Ag cg g (hg.keep RNode.kept (Ext0.cells hE)) hok (Ext0.cells hE _ _ hx0) f Aw cw (hw.keep RInt.kept (Ext0.cells hE)) hf hi hpos Bk dk Bl dl (fun j v hj => by rw [← ht] at hj; exact Ext0.cells hE _ _ (hcell2 j v hj))) ?_
        rintro _ w ⟨rfl, hX⟩
        replace hL := hL.ext0 hX
        replace hE := hE.trans hX
        rw [← ht]
        have hK := hL.sub (.cons _ (.cons _ (.cons_cons _ .slnil)))
        refine ⟨_, rfl, ⟨hK, hE⟩, ?_⟩
        refine h_new_do 13 rfl rfl (by kernel_rfl) rfl (r_store 0 rfl Tryz.sizeOf46 rfl hL hE rfl rfl rfl rfl (fun h => absurd h (Nat.not_lt.2 hb7))) ?_
        rintro w ⟨hL, hE, hz, hk⟩
        have hK := hL.sub (.cons _ (.cons _ (.cons_cons _ .slnil)))
        refine ⟨⟨hK, hE⟩, ?_⟩
        refine h_new_do 14 rfl rfl (by kernel_rfl) rfl (r_store 1 rfl Tryz.sizeOf46 rfl hL hE rfl rfl rfl rfl (fun h => absurd h (Nat.not_lt.2 hb8))) ?_
        rintro w ⟨hL, hE, hz, hk⟩
        have hK := hL.sub (.cons _ (.cons _ (.cons_cons _ .slnil)))
        refine ⟨⟨hK, hE⟩, ?_⟩
        refine h_done (by kernel_rfl) ?_
        refine ⟨by repeat (first | exact Agree.over _ _ _ | exact Agree.refl _ _ | (refine Agree.puto ?_ _ _ rfl) | (refine Agree.put ?_ _ _ rfl) | (refine Agree.sub ?_ rfl)), ?_⟩
        exact ⟨b7, b8, rfl, rfl, (((hL.front 2 rfl).front 1 rfl).front 2 rfl), hE⟩
  rintro e w hI
  obtain ⟨b7, b8, h7, h8, hL, hE⟩ := hI
  refine c_know h7 ?_
  refine c_know (t := 8) (by exact h8) ?_
  refine c_seq ?_
  refine c_merge [24, 25, 26, 27, 28, 29, 30, 31, 32, 33, 34, 35, 36, 37, 38, 39, 40, 41, 42] (fun e w => e 42 = .bool (oddF s t) ∧ Has w [.blk b8 (.cells (nodeCells t Bk dk Bl dl).toArray 46 (0, 0)), .blk b7 (.cells (nodeCells s Ak ck Al cl).toArray 46 (0, 0)), .blk b3 (.cells (factCells f Aw cw).toArray 43 (0, 0))] ∧ Ext0 w0 w) ?_ ?_
  · skip
 
    refine c_ops ?_
    refine l_val rfl rfl rfl (r_fieldAddr (n := 0) rfl Tryz.underlying46 rfl Tryz.sizeOf3 rfl) ?_
    refine l_val rfl rfl rfl (r_load_blk rfl Tryz.isAgg3 rfl (hL.get 1 rfl) rfl) ?_
    refine l_val rfl rfl rfl (r_fieldAddr (n := 0) rfl Tryz.underlying46 rfl Tryz.sizeOf3 rfl) ?_
    refine l_val rfl rfl rfl (r_load_blk rfl Tryz.isAgg3 rfl (hL.get 0 rfl) rfl) ?_
    refine l_val rfl rfl rfl (r_neq rfl rfl rfl) ?_
    refine l_val rfl rfl rfl (r_move rfl) ?_
    refine l_case 29 rfl (fun hb => ?_) (fun hb => ?_)
    · have hr29 := hb
      replace hb := of_decide_eq_false (by simpa using hb)
      refine l_not rfl rfl rfl ?_
      refine l_not rfl rfl rfl ?_
      refine l_not rfl rfl rfl ?_
      refine l_not rfl rfl rfl ?_
      refine l_not rfl rfl rfl ?_
      refine l_val rfl rfl rfl (r_pick rfl rfl) ?_
      refine l_val rfl rfl rfl (r_move rfl) ?_
      refine l_not rfl rfl rfl ?_
      refine l_not rfl rfl rfl ?_
      refine l_not rfl rfl rfl ?_
      refine l_not rfl rfl rfl ?_
      refine l_not rfl rfl rfl ?_
      refine l_val rfl rfl rfl (r_pick rfl rfl) ?_
      refine l_nil ?_
      refine ⟨by repeat (first | exact Agree.over _ _ _ | exact Agree.refl _ _ | (refine Agree.puto ?_ _ _ rfl) | (refine Agree.put ?_ _ _ rfl) | (refine Agree.sub ?_ rfl)), ?_⟩
      exact ⟨congrArg Value.bool (by simp only [oddF, hr29, Bool.true_and, Bool.and_true, Bool.false_and, Bool.and_false, Bool.true_or, Bool.or_true, Bool.false_or, Bool.or_false, Bool.not_true, Bool.not_false, cond_true, cond_false]), hL, hE⟩
    · have hr29 := hb
      replace hb := of_decide_eq_true (by simpa using hb)
      refine l_val rfl rfl rfl (r_fieldAddr (n := 0) rfl Tryz.underlying46 rfl Tryz.sizeOf9 rfl) ?_
      refine l_val rfl rfl rfl (r_load_blk rfl Tryz.isAgg9 rfl (hL.get 1 rfl) rfl) ?_
      refine l_val rfl rfl rfl (r_fieldAddr (n := 0) rfl Tryz.underlying46 rfl Tryz.sizeOf9 rfl) ?_
      refine l_val rfl rfl rfl (r_load_blk rfl Tryz.isAgg9 rfl (hL.get 0 rfl) rfl) ?_
      refine l_val rfl rfl rfl (r_sneq rfl rfl rfl) ?_
      refine l_val rfl rfl rfl (r_pick rfl rfl) ?_
      refine l_val rfl rfl rfl (r_move rfl) ?_
      refine l_case 36 rfl (fun hb => ?_) (fun hb => ?_)
      · have hr36 := hb
        replace hb := of_decide_eq_false (by simpa using hb)
        refine l_not rfl rfl rfl ?_
        refine l_not rfl rfl rfl ?_
        refine l_not rfl rfl rfl ?_
        refine l_not rfl rfl rfl ?_
        refine l_not rfl rfl rfl ?_
        refine l_val rfl rfl rfl (r_pick rfl rfl) ?_
        refine l_nil ?_
        refine ⟨by repeat (first | exact Agree.over _ _ _ | exact Agree.refl _ _ | (refine Agree.puto ?_ _ _ rfl) | (refine Agree.put ?_ _ _ rfl) | (refine Agree.sub ?_ rfl)), ?_⟩
        exact ⟨congrArg Value.bool (by simp only [oddF, hr29, hr36, Bool.true_and, Bool.and_true, Bool.false_and, Bool.and_false, Bool.true_or, Bool.or_true, Bool.false_or, Bool.or_false, Bool.not_true, Bool.not_false, cond_true, cond_false]), hL, hE⟩
      · have hr36 := hb
        replace hb := of_decide_eq_true (by simpa using hb)
        refine l_val rfl rfl rfl (r_fieldAddr (n := 0) rfl Tryz.underlying46 rfl Tryz.sizeOf3 rfl) ?_
        refine l_val rfl rfl rfl (r_load_blk rfl Tryz.isAgg3 rfl (hL.get 1 rfl) rfl) ?_
        refine l_val rfl rfl rfl (r_fieldAddr (n := 0) rfl Tryz.underlying46 rfl Tryz.sizeOf3 rfl) ?_
        refine l_val rfl rfl rfl (r_load_blk rfl Tryz.isAgg3 rfl (hL.get 0 rfl) rfl) ?_
        refine l_val rfl rfl rfl (r_neq rfl rfl rfl) ?_
        refine l_val rfl rfl rfl (r_pick rfl rfl) ?_
        refine l_nil ?_
        refine ⟨by repeat (first | exact Agree.over _ _ _ | exact Agree.refl _ _ | (refine Agree.puto ?_ _ _ rfl) | (refine Agree.put ?_ _ _ rfl) | (refine Agree.sub ?_ rfl)), ?_⟩
        exact ⟨congrArg Value.bool (by simp only [oddF, hr29, hr36, Bool.true_and, Bool.and_true, Bool.false_and, Bool.and_false, Bool.true_or, Bool.or_true, Bool.false_or, Bool.or_false, Bool.not_true, Bool.not_false, cond_true, cond_false]), hL, hE⟩
  rintro e w hI
  obtain ⟨h42, hL, hE⟩ := hI
  refine c_know h42 ?_
  refine c_cond rfl (fun hb => ?_) (fun hb => ?_)
  · have hr42 := hb
    have hp : plainR s t = ([], false) := by unfold plainR; rw [if_pos hb]
    refine c_seq ?_
 
    refine c_ops ?_
    refine l_val rfl rfl rfl (r_assign rfl) ?_
    refine l_val rfl rfl rfl (r_assign rfl) ?_
    refine l_val rfl rfl rfl (r_assign rfl) ?_
    refine l_nil ?_
    refine c_ret ?_
    exact RuleRes.of (r' := (true, [], false)) (by rw [hp]) ⟨_, rfl, nil_row _ _ _ _, hE⟩
  · have hr42 := hb
    have hst : s.kind = t.kind := by
      unfold oddF at hb
      rw [Bool.or_eq_false_iff, Bool.or_eq_false_iff] at hb
      simpa using hb.1.1
    have hp : plainR s t = if s.kind = 9 then ([(iat s.l 0, iat t.l 0)], true) else match plainOn s (t.keys.zip t.l) with
      | none => ([], false)
      | some on => (on, true) := by unfold plainR; rw [if_neg (by rw [hb]; decide)]
    refine c_skip ?_
    refine c_seq ?_
    refine c_seq ?_
 
    refine c_ops ?_
    refine l_val rfl rfl rfl (r_fieldAddr (n := 0) rfl Tryz.underlying46 rfl Tryz.sizeOf3 rfl) ?_
    refine l_val rfl rfl rfl (r_load_blk rfl Tryz.isAgg3 rfl (hL.get 1 rfl) rfl) ?_
    refine l_val rfl rfl rfl (r_eql rfl rfl rfl) ?_
    refine l_nil ?_
    refine c_cond rfl (fun hb => ?_) (fun hb => ?_)
    · have hr45 := hb
      replace hb := of_decide_eq_true hb
      rw [if_pos hb] at hp
      have hl1 : s.l.length = 1 := by rcases hps with h | h | h | h | h | ⟨h, h1⟩ | ⟨h, h1⟩ <;> first | exact h1 | omega
      have hl2 : t.l.length = 1 := by rcases hpt with h | h | h | h | h | ⟨h, h1⟩ | ⟨h, h1⟩ <;> first | exact h1 | omega
      refine c_seq ?_
   
      refine c_draw mixed (hL) hE ?_
      replace hL := hL.drew
      replace hE := hE.drew
      have hK := hL
      refine h_t 0 rfl rfl (by kernel_rfl) (fun _ _ _ h => h) ⟨hK, hE⟩ rfl (fun W hW => r_fieldAddr (n := 0) rfl Tryz.underlying46 rfl Tryz.sizeOf26 rfl) ?_
      refine h_t 1 rfl rfl (by kernel_rfl) (fun _ _ _ h => h) ⟨hK, hE⟩ rfl (fun W hW => r_load_blk rfl Tryz.isAgg26 rfl (hW.1.get 1 rfl) rfl) ?_
      refine h_t 2 rfl rfl (by kernel_rfl) (fun _ _ _ h => h) ⟨hK, hE⟩ rfl (fun W hW => r_indexAddr_sl rfl Tryz.underlying26 Tryz.sizeOf3 rfl hsl.is rfl (by omega) (by omega)) ?_
      refine h_t 3 rfl rfl (by kernel_rfl) (fun _ _ _ h => h) ⟨hK, hE⟩ rfl (fun W hW => r_load rfl Tryz.isAgg3 rfl ((hsl.keep RInt.kept (Ext0.cells hW.2)).int 0 (by omega) (by omega))) ?_
      refine h_t 4 rfl rfl (by kernel_rfl) (fun _ _ _ h => h) ⟨hK, hE⟩ rfl (fun W hW => r_fieldAddr (n := 0) rfl Tryz.underlying46 rfl Tryz.sizeOf26 rfl) ?_
      refine h_t 5 rfl rfl (by kernel_rfl) (fun _ _ _ h => h) ⟨hK, hE⟩ rfl (fun W hW => r_load_blk rfl Tryz.isAgg26 rfl (hW.1.get 0 rfl) rfl) ?_
      refine h_t 6 rfl rfl (by kernel_rfl) (fun _ _ _ h => h) ⟨hK, hE⟩ rfl (fun W hW => r_indexAddr_sl rfl Tryz.underlying26 Tryz.sizeOf3 rfl htl.is rfl (by omega) (by omega)) ?_
      refine h_t 7 rfl rfl (by kernel_rfl) (fun _ _ _ h => h) ⟨hK, hE⟩ rfl (fun W hW => r_load rfl Tryz.isAgg3 rfl ((htl.keep RInt.kept (Ext0.cells hW.2)).int 0 (by omega) (by omega))) ?_
      refine h_t 8 rfl rfl (by kernel_rfl) (fun _ _ _ h => h) ⟨hK, hE⟩ rfl (fun W hW => r_build rfl rfl (built_fpair _ _)) ?_
      refine h_t 10 rfl rfl (by kernel_rfl) (fun _ _ _ h => h) ⟨hK, hE⟩ rfl (fun W hW => r_assign rfl) ?_
      refine h_new 9 rfl rfl (by kernel_rfl) rfl (n_slice (cells := #[.int .i64 (iat s.l 0), .int .i64 (iat t.l 0)]) rfl Tryz.underlying90 Tryz.sizeOf59 Tryz.zeroValue59 rfl rfl (fill_pair _ _) hL hE) ?_
      rintro _ w ⟨s55, rfl, hs55, hL, hE, hX⟩
      have hK := hL.sub (.cons _ (.cons_cons _ (.cons_cons _ (.cons_cons _ .slnil))))
      refine ⟨⟨hK, hE⟩, ?_⟩
      refine h_t 11 rfl rfl (by kernel_rfl) (fun _ _ _ h => h) ⟨hK, hE⟩ rfl (fun W hW => r_assign rfl) ?_
      refine h_t 12 rfl rfl (by kernel_rfl) (fun _ _ _ h => h) ⟨hK, hE⟩ rfl (fun W hW => r_assign rfl) ?_
      refine h_done (by kernel_rfl) ?_
      refine c_ret ?_
      exact RuleRes.of (r' := (true, [(iat s.l 0, iat t.l 0)], true)) (by rw [hp]) ⟨_, rfl, (Has.asRow (n := 1) (sz := 2) hL hs55 rfl (by decide)).row 0 rfl, hE⟩
    · have hr45 := hb
      replace hb := of_decide_eq_false hb
      rw [if_neg hb] at hp
      replace hL := hL.nilRow w0.heap.size 59 2
      refine c_skip ?_
      refine c_seq ?_
      refine c_seq ?_
   
      refine c_ops ?_
      refine l_val rfl rfl rfl (r_fieldAddr (n := 0) rfl Tryz.underlying46 rfl Tryz.sizeOf44 rfl) ?_
      refine l_val rfl rfl rfl (r_load_blk rfl Tryz.isAgg44 rfl (hL.get 1 rfl) rfl) ?_
      refine l_val rfl rfl rfl (r_len rfl Tryz.underlying44 rfl) ?_
      refine l_val rfl rfl rfl (r_move rfl) ?_
      refine l_nil ?_
      refine c_block ?_
   
      refine c_loop [4, 5, 6, 9, 10, 11, 12, 59, 60, 61, 62, 63, 64, 65, 66, 67, 68, 69, 70, 71, 72, 73, 74, 75, 76, 77, 78, 79, 80, 81, 82, 83, 84, 85, 86, 87] (fun m1 e w => ∃ (k : Nat) (A5 : Option Addr) (c5 : Nat) (on : FP), k ≤ t.keys.length ∧ m1 = t.keys.length - k ∧ e 59 = .int .i64 k ∧ e 5 = .slice A5 on.length c5 ∧ on.length = k ∧ plainOn s (t.keys.zip t.l) = (plainOn s ((t.keys.zip t.l).drop k)).map (on ++ ·) ∧ Has w [.row w0.heap.size 59 2 (.slice A5 on.length c5) on.length (on.map cells2).flatten, .blk b8 (.cells (nodeCells t Bk dk Bl dl).toArray 46 (0, 0)), .blk b7 (.cells (nodeCells s Ak ck Al cl).toArray 46 (0, 0)), .blk b3 (.cells (factCells f Aw cw).toArray 43 (0, 0))] ∧ Ext0 w0 w) t.keys.length ?_ ?_
      · exact ⟨0, none, 0, [], Nat.zero_le _, rfl, rfl, rfl, rfl, by simp, hL, hE⟩
      intro m1 e w hI
      obtain ⟨k, A5, c5, on, hk, hm, h59, h5, honl, hon, hL, hE⟩ := hI
      refine c_know h59 ?_
      refine c_know (t := 5) (by exact h5) ?_
      refine c_seq ?_
   
      refine c_ops ?_
      refine l_val rfl rfl rfl (r_lss rfl rfl rfl) ?_
      refine l_nil ?_
      refine c_seq ?_
      refine c_cond rfl (fun hb => ?_) (fun hb => ?_)
      · have hr60 := hb
        replace hb := of_decide_eq_true hb
        have hkn : k < t.keys.length := by omega
        have hky := hit.keys hkn
        have hsr : risesB s.keys = true ∧ s.l.length = s.keys.length := by
          rcases his with ⟨h, _⟩ | ⟨h, _⟩ | ⟨h, hl, hr, _⟩ | ⟨h, _⟩ | ⟨h, _⟩
          · omega
          · omega
          · exact ⟨hr, hl⟩
          · omega
          · omega
        obtain ⟨hsr, hsll⟩ := hsr
        have hsb := hok.fits.lists _ (gat_mem' hf.a.1 hf.a.2)
        rw [← hs] at hsb
        obtain ⟨key, hkey⟩ : ∃ key, key = t.keys.getD (k : Int).toNat ByteArray.empty := ⟨_, rfl⟩
        have hstep := plainOn_step s (sat_nat hkn) (iat_nat (show k < t.l.length by omega))
        rw [← hkey] at hstep
        have hlt := idxS_lt s.keys key
        refine c_skip ?_
        refine c_seq ?_
        refine c_block ?_
        refine c_seq ?_
     
        refine c_ops ?_
        refine l_val rfl rfl rfl (r_move rfl) ?_
        refine l_val rfl rfl rfl (r_indexAddr_sl rfl Tryz.underlying44 Tryz.sizeOf9 rfl htk.is rfl (by omega) (by omega)) ?_
        refine l_val rfl rfl rfl (r_load (v := .string key) rfl Tryz.isAgg9 rfl (by rw [hkey]; exact (htk.keep RStr.kept (Ext0.cells hE)).str k (by omega) (by omega))) ?_
        refine l_val rfl rfl rfl (r_assign rfl) ?_
        refine l_val rfl rfl rfl (r_assign rfl) ?_
        refine l_nil ?_
        refine c_seq ?_
     
        refine c_ops ?_
        refine l_val rfl rfl rfl (r_fieldAddr (n := 0) rfl Tryz.underlying46 rfl Tryz.sizeOf44 rfl) ?_
        refine l_val rfl rfl rfl (r_load_blk rfl Tryz.isAgg44 rfl (hL.get 2 rfl) rfl) ?_
        refine l_val rfl rfl rfl (r_move rfl) ?_
        refine l_by rfl rfl rfl (r_call rfl rfl Tryz.func111 rfl rfl) (Binary_calls _ _ _ _ s.keys key (hsk.keep RStr.kept (Ext0.cells hE)) hsr (by omega)) ?_
        rintro _ w ⟨bi, rfl, hbi, hX⟩
        replace hL := hL.ext0 hX
        replace hE := hE.trans hX
        refine ⟨_, rfl, ?_⟩
        refine l_val rfl rfl rfl (r_move rfl) ?_
        refine l_val rfl rfl rfl (r_extract rfl rfl rfl) ?_
        refine l_val rfl rfl rfl (r_extract rfl rfl rfl) ?_
        refine l_val rfl rfl rfl (r_assign rfl) ?_
        refine l_val rfl rfl rfl (r_assign rfl) ?_
        refine l_nil ?_
        refine c_seq ?_
        refine c_seq ?_
     
        refine c_ops ?_
        refine l_val rfl rfl rfl (r_move rfl) ?_
        refine l_val rfl rfl rfl (r_not rfl rfl) ?_
        refine l_nil ?_
        refine c_cond rfl (fun hb => ?_) (fun hb => ?_)
        · have hr72 := hb
          have hneg : idxV (idxS s.keys key) < 0 := by simpa using hr72
          have hp2 : plainR s t = ([], false) := by rw [hp, hon, hstep, if_pos hneg]; rfl
          refine c_seq ?_
       
          refine c_ops ?_
          refine l_val rfl rfl rfl (r_assign rfl) ?_
          refine l_val rfl rfl rfl (r_assign rfl) ?_
          refine l_val rfl rfl rfl (r_assign rfl) ?_
          refine l_nil ?_
          refine c_ret ?_
          exact RuleRes.of (r' := (true, [], false)) (by rw [hp2]) ⟨_, rfl, nil_row _ _ _ _, hE⟩
        · have hr72 := hb
          have hge : 0 ≤ idxV (idxS s.keys key) := by simpa using hr72
          obtain rfl := hbi hge
          have hon2 : plainOn s (t.keys.zip t.l) = (plainOn s ((t.keys.zip t.l).drop (k + 1))).map ((on ++ [(iat s.l (idxV (idxS s.keys key)), iat t.l k)]) ++ ·) := by
            rw [hon, hstep, if_neg (by omega), Option.map_map]
            congr 1
            funext l
            simp
          refine c_skip ?_
       
          refine c_draw mixed (hL.sub (.cons _ (.cons_cons _ (.cons_cons _ (.cons_cons _ .slnil))))) hE ?_
          replace hL := hL.drew
          replace hE := hE.drew
          have hK := hL.sub (.cons _ (.cons_cons _ (.cons_cons _ (.cons_cons _ .slnil))))
          refine h_t 0 rfl rfl (by kernel_rfl) (fun _ _ _ h => h) ⟨hK, hE⟩ rfl (fun W hW => r_move rfl) ?_
          refine h_t 1 rfl rfl (by kernel_rfl) (fun _ _ _ h => h) ⟨hK, hE⟩ rfl (fun W hW => r_fieldAddr (n := 0) rfl Tryz.underlying46 rfl Tryz.sizeOf26 rfl) ?_
          refine h_t 2 rfl rfl (by kernel_rfl) (fun _ _ _ h => h) ⟨hK, hE⟩ rfl (fun W hW => r_load_blk rfl Tryz.isAgg26 rfl (hW.1.get 1 rfl) rfl) ?_
          refine h_t 3 rfl rfl (by kernel_rfl) (fun _ _ _ h => h) ⟨hK, hE⟩ rfl (fun W hW => r_move rfl) ?_
          refine h_t 4 rfl rfl (by kernel_rfl) (fun _ _ _ h => h) ⟨hK, hE⟩ rfl (fun W hW => r_indexAddr_sl rfl Tryz.underlying26 Tryz.sizeOf3 rfl hsl.is rfl (by omega) (by omega)) ?_
          refine h_t 5 rfl rfl (by kernel_rfl) (fun _ _ _ h => h) ⟨hK, hE⟩ rfl (fun W hW => r_load (v := .int .i64 (iat s.l (idxV (idxS s.keys key)))) rfl Tryz.isAgg3 rfl (by skip; exact (hsl.keep RInt.kept (Ext0.cells hW.2)).int _ (by omega) (by omega))) ?_
          refine h_t 6 rfl rfl (by kernel_rfl) (fun _ _ _ h => h) ⟨hK, hE⟩ rfl (fun W hW => r_fieldAddr (n := 0) rfl Tryz.underlying46 rfl Tryz.sizeOf26 rfl) ?_
          refine h_t 7 rfl rfl (by kernel_rfl) (fun _ _ _ h => h) ⟨hK, hE⟩ rfl (fun W hW => r_load_blk rfl Tryz.isAgg26 rfl (hW.1.get 0 rfl) rfl) ?_
          refine h_t 8 rfl rfl (by kernel_rfl) (fun _ _ _ h => h) ⟨hK, hE⟩ rfl (fun W hW => r_move rfl) ?_
          refine h_t 9 rfl rfl (by kernel_rfl) (fun _ _ _ h => h) ⟨hK, hE⟩ rfl (fun W hW => r_indexAddr_sl rfl Tryz.underlying26 Tryz.sizeOf3 rfl htl.is rfl (by omega) (by omega)) ?_
          refine h_t 10 rfl rfl (by kernel_rfl) (fun _ _ _ h => h) ⟨hK, hE⟩ rfl (fun W hW => r_load rfl Tryz.isAgg3 rfl ((htl.keep RInt.kept (Ext0.cells hW.2)).int k (by omega) (by omega))) ?_
          refine h_t 11 rfl rfl (by kernel_rfl) (fun _ _ _ h => h) ⟨hK, hE⟩ rfl (fun W hW => r_build rfl rfl (built_fpair _ _)) ?_
          refine h_new 12 rfl rfl (by kernel_rfl) rfl (n_slice (cells := #[.int .i64 (iat s.l (idxV (idxS s.keys key))), .int .i64 (iat t.l k)]) rfl Tryz.underlying90 Tryz.sizeOf59 Tryz.zeroValue59 rfl rfl (fill_pair _ _) hL hE) ?_
          rintro _ w ⟨s85, rfl, hs85, hL, hE, hX⟩
          have hK := hL.sub (.cons _ (.cons _ (.cons_cons _ (.cons_cons _ (.cons_cons _ .slnil)))))
          refine ⟨⟨hK, hE⟩, ?_⟩
          refine h_new 13 rfl rfl (by kernel_rfl) rfl (r_append (ys := cells2 (iat s.l (idxV (idxS s.keys key)), iat t.l k)) 1 rfl Tryz.underlying90 info_fpair rfl (by decide) rfl rfl hL hE rfl rfl (blk_raw (cs := #[.int .i64 (iat s.l (idxV (idxS s.keys key))), .int .i64 (iat t.l k)]) (hL.get 0 rfl) rfl) (fun u hu => by simp [cells2] at hu; rcases hu with rfl | rfl <;> rfl) (by omega) (by omega) (Nat.le_refl _) hE.size) ?_
          rintro _ w ⟨hL, hE, hk⟩
          obtain ⟨A8, c8, rfl⟩ := ownsRow_slice (hL.row 1 rfl)
          replace hL : Has w ([.blk s85 (.cells #[.int .i64 (iat s.l (idxV (idxS s.keys key))), .int .i64 (iat t.l k)] 59 (0, 0)), .row w0.heap.size 59 2 (.slice A8 (on ++ [(iat s.l (idxV (idxS s.keys key)), iat t.l k)]).length c8) (on ++ [(iat s.l (idxV (idxS s.keys key)), iat t.l k)]).length ((on ++ [(iat s.l (idxV (idxS s.keys key)), iat t.l k)]).map cells2).flatten, .blk b8 (.cells (nodeCells t Bk dk Bl dl).toArray 46 (0, 0)), .blk b7 (.cells (nodeCells s Ak ck Al cl).toArray 46 (0, 0)), .blk b3 (.cells (factCells f Aw cw).toArray 43 (0, 0))]) := by rw [← pairs_snoc, List.length_append]; exact hL
          have hK := hL.sub (.cons _ (.cons _ (.cons_cons _ (.cons_cons _ (.cons_cons _ .slnil)))))
          refine ⟨⟨hK, hE⟩, ?_⟩
          refine h_t 14 rfl rfl (by kernel_rfl) (fun _ _ _ h => h) ⟨hK, hE⟩ rfl (fun W hW => r_assign rfl) ?_
          refine h_done (by kernel_rfl) ?_
       
          refine c_ops ?_
          refine l_val rfl rfl rfl (r_add rfl rfl rfl) ?_
          refine l_val rfl rfl rfl (r_move rfl) ?_
          refine l_nil ?_
          refine ⟨by repeat (first | exact Agree.over _ _ _ | exact Agree.refl _ _ | (refine Agree.puto ?_ _ _ rfl) | (refine Agree.put ?_ _ _ rfl) | (refine Agree.sub ?_ rfl)), ?_⟩
          exact ⟨t.keys.length - (k + 1), by omega, k + 1, A8, c8, on ++ [(iat s.l (idxV (idxS s.keys key)), iat t.l k)], by omega, rfl, by show Value.int .i64 (IntKind.i64.wrap ((k : Int) + 1)) = _; rw [wrap_succ hkn htk.max], congrArg (fun n => Value.slice A8 n c8) (by simp), by simp [honl], hon2, hL.tail, hE⟩
      · have hr60 := hb
        replace hb := of_decide_eq_false hb
        obtain rfl : k = t.keys.length := by omega
        rw [List.drop_eq_nil_of_le (by simp; omega)] at hon
        have hp2 : plainR s t = (on, true) := by rw [hp, hon]; simp [plainOn]
        refine c_exit ?_
        refine c_seq ?_
     
        refine c_ops ?_
        refine l_val rfl rfl rfl (r_move rfl) ?_
        refine l_val rfl rfl rfl (r_assign rfl) ?_
        refine l_val rfl rfl rfl (r_assign rfl) ?_
        refine l_val rfl rfl rfl (r_assign rfl) ?_
        refine l_nil ?_
        refine c_ret ?_
        exact RuleRes.of (r' := (true, on, true)) (by rw [hp2]) ⟨_, rfl, hL.row 0 rfl, hE⟩
end Go.Proofs.YtndophlnapjkhaaGreatDoor.Vc
namespace Go.Proofs.YtndophlnapjkhaaGreatDoor.Vc
open Go Go.RowKit
set_option linter.unusedVariables false
set_option linter.unusedSimpArgs false
theorem built_frules (xb : Nat) : Tryz.prog.built 115 [(0, .func (.func 94) #[.pointer (some ⟨xb, 0, none⟩)] #[]), (1, .func (.func 95) #[.pointer (some ⟨xb, 0, none⟩)] #[]), (2, .func (.func 96) #[.pointer (some ⟨xb, 0, none⟩)] #[]), (3, .func (.func 97) #[.pointer (some ⟨xb, 0, none⟩)] #[])] = some #[.func (.func 94) #[.pointer (some ⟨xb, 0, none⟩)] #[], .func (.func 95) #[.pointer (some ⟨xb, 0, none⟩)] #[], .func (.func 96) #[.pointer (some ⟨xb, 0, none⟩)] #[], .func (.func 97) #[.pointer (some ⟨xb, 0, none⟩)] #[]] := by kernel_rfl
theorem rules_calls (w0 : World) (xb : Nat) : Calls Tryz.prog 77 [.pointer (some ⟨xb, 0, none⟩)].toArray w0 fun en w' => en = .returned (.agg #[.func (.func 94) #[.pointer (some ⟨xb, 0, none⟩)] #[], .func (.func 95) #[.pointer (some ⟨xb, 0, none⟩)] #[], .func (.func 96) #[.pointer (some ⟨xb, 0, none⟩)] #[], .func (.func 97) #[.pointer (some ⟨xb, 0, none⟩)] #[]]) ∧ Ext0 w0 w' := by
  have hE : Ext0 w0 w0 := Ext.refl _ _
  have hL : Has w0 [] := trivial
  refine calls_cell 2 115 Tryz.func77 rfl rfl rfl Tryz.isAgg115 Tryz.sizeOf115 ?_
  refine c_seq ?_
  refine c_ops ?_
  refine l_new rfl rfl rfl (n_alloc rfl Tryz.zeroValue115 hL hE) ?_
  rintro _ w ⟨b2, rfl, hb2, hL, hE, hX⟩
  refine l_nil ?_
  refine c_seq ?_
  refine c_ops ?_
  refine l_val rfl rfl rfl (r_move rfl) ?_
  refine l_val rfl rfl rfl (r_makeFunc rfl) ?_
  refine l_val rfl rfl rfl (r_move rfl) ?_
  refine l_val rfl rfl rfl (r_makeFunc rfl) ?_
  refine l_val rfl rfl rfl (r_move rfl) ?_
  refine l_val rfl rfl rfl (r_makeFunc rfl) ?_
  refine l_val rfl rfl rfl (r_move rfl) ?_
  refine l_val rfl rfl rfl (r_makeFunc rfl) ?_
  refine l_val rfl rfl rfl (r_build rfl rfl (built_frules xb)) ?_
  refine l_new_do rfl rfl (r_store 0 rfl Tryz.sizeOf115 rfl hL hE rfl rfl rfl rfl (fun h => absurd h (Nat.not_lt.2 hb2))) ?_
  rintro w ⟨hL, hE, hz, hk⟩
  refine l_nil ?_
  refine c_ret ?_
  exact ⟨_, rfl, [.func (.func 94) #[.pointer (some ⟨xb, 0, none⟩)] #[], .func (.func 95) #[.pointer (some ⟨xb, 0, none⟩)] #[], .func (.func 96) #[.pointer (some ⟨xb, 0, none⟩)] #[], .func (.func 97) #[.pointer (some ⟨xb, 0, none⟩)] #[]], rfl, blk_raw (hL.get 0 rfl) rfl, rfl, hE⟩
def byF (g : List GNode) (f : Fact) : FP × Bool :=
  if (unionF g f).1 then (unionF g f).2 else if (boundF g f).1 then (boundF g f).2 else if (looseF g f).1 then (looseF g f).2 else (plainF g f).2
def ByRes (w0 : World) (r : FP × Bool) (en : Ending) (w' : World) : Prop := ∃ v, en = .returned (.tuple #[v, .bool r.2]) ∧ w'.ownsRow w0.heap.size 59 2 v r.1.length (r.1.map cells2).flatten ∧ Ext0 w0 w'
theorem ByRes.of {w0 w' : World} {r r' : FP × Bool} {en : Ending} (h : r = r') (k : ByRes w0 r' en w') : ByRes w0 r en w' := h ▸ k
theorem union_no {g : List GNode} {f : Fact} (h : (unionF g f).1 = false) : (gat g f.a).kind ≠ 8 := by
  intro h8
  unfold unionF at h
  rw [if_pos h8] at h
  cases h
theorem bound_no {g : List GNode} {f : Fact} (h : (boundF g f).1 = false) : ¬ ((gat g f.a).kind = 9 ∧ iat f.why 0 = -1) := by
  intro h8
  unfold boundF at h
  rw [if_pos h8] at h
  cases h
theorem by_calls (w0 : World) (xb : Nat) (Ag : Option Addr) (cg : Nat) (g : List GNode) (hg : Nodes w0 Ag cg g) (hok : GraphOk g) (hx0 : w0.cell? ⟨xb, 0, none⟩ = some (.slice Ag g.length cg)) (f : Fact) (Aw : Option Addr) (cw : Nat) (hw : Ints w0 Aw cw f.why) (hf : FactOk g f) :
    Calls Tryz.prog 53 [.pointer (some ⟨xb, 0, none⟩), .agg (factCells f Aw cw).toArray].toArray w0 (ByRes w0 (byF g f)) := by
  have hE : Ext0 w0 w0 := Ext.refl _ _
  have hL : Has w0 [] := trivial
  refine calls [4, 5] Tryz.func53 rfl rfl rfl rfl ?_
  refine c_seq ?_
  refine c_ops ?_
  refine l_new rfl rfl rfl (n_box rfl hL hE) ?_
  rintro _ w ⟨b3, rfl, hb3, hL, hE, hX⟩
  refine l_val rfl rfl rfl (r_assign rfl) ?_
  refine l_val rfl rfl rfl (r_assign rfl) ?_
  refine l_nil ?_
  refine c_seq ?_
  refine c_seq ?_
  refine c_ops ?_
  refine l_val rfl rfl rfl (r_move rfl) ?_
  refine l_by rfl rfl rfl (r_call rfl rfl Tryz.func77 rfl rfl) (rules_calls _ _) ?_
  rintro _ w ⟨rfl, hX⟩
  replace hL := hL.ext0 hX
  replace hE := hE.trans hX
  refine ⟨_, rfl, ?_⟩
  refine l_val rfl rfl rfl (r_move rfl) ?_
  refine l_nil ?_
  refine c_block ?_
  refine c_loop [4, 5, 7, 8, 9, 10, 13, 14, 15, 16, 17, 18, 19, 20, 21, 22, 23, 24, 25, 26] (fun m1 e w => ∃ k : Nat, k ≤ 4 ∧ m1 = 4 - k ∧ e 13 = .int .i64 k ∧ (0 < k → (unionF g f).1 = false) ∧ (1 < k → (boundF g f).1 = false) ∧ (2 < k → (looseF g f).1 = false) ∧ ¬ 3 < k ∧ Has w [.blk b3 (.cells (factCells f Aw cw).toArray 43 (0, 0))] ∧ Ext0 w0 w) 4 ?_ ?_
  · exact ⟨0, by decide, rfl, rfl, fun h => absurd h (by decide), fun h => absurd h (by decide), fun h => absurd h (by decide), by decide, hL, hE⟩
  intro m1 e w hI
  obtain ⟨k, hk, hm, h13, hm0, hm1, hm2, hm3, hL, hE⟩ := hI
  refine c_know h13 ?_
  refine c_seq ?_
  refine c_ops ?_
  refine l_val rfl rfl rfl (r_lss rfl rfl rfl) ?_
  refine l_nil ?_
  refine c_seq ?_
  refine c_cond rfl (fun hb => ?_) (fun hb => ?_)
  · have hr14 := hb
    replace hb := of_decide_eq_true hb
    obtain rfl | rfl | rfl | rfl : k = 0 ∨ k = 1 ∨ k = 2 ∨ k = 3 := by omega
    · refine c_skip ?_
      refine c_seq ?_
      refine c_block ?_
      refine c_seq ?_
   
      refine c_ops ?_
      refine l_val rfl rfl rfl (r_index_arr rfl Tryz.underlying115 Tryz.sizeOf114 Tryz.isAgg114 rfl rfl (by decide) (by decide) rfl) ?_
      refine l_val rfl rfl rfl (r_assign rfl) ?_
      refine l_nil ?_
      refine c_seq ?_
   
      refine c_ops ?_
      refine l_val rfl rfl rfl (r_move rfl) ?_
      refine l_val rfl rfl rfl (r_load_blk_agg rfl Tryz.isAgg43 Tryz.sizeOf43 rfl (hL.get 0 rfl) rfl) ?_
      refine l_by rfl rfl rfl (r_call rfl rfl Tryz.func94 rfl rfl) (union_calls _ xb Ag cg g (hg.keep RNode.kept (Ext0.cells hE)) hok (Ext0.cells hE _ _ hx0) f Aw cw (hw.keep RInt.kept (Ext0.cells hE)) hf) ?_
      rintro _ w ⟨v, rfl, hrow, hX⟩
      have hrow := ownsRow_base hrow hE.size
      replace hL := hL.ext0 hX
      replace hE := hE.trans hX
      refine ⟨_, rfl, ?_⟩
      refine l_val rfl rfl rfl (r_move rfl) ?_
      refine l_val rfl rfl rfl (r_extract rfl rfl rfl) ?_
      refine l_val rfl rfl rfl (r_extract rfl rfl rfl) ?_
      refine l_val rfl rfl rfl (r_extract rfl rfl rfl) ?_
      refine l_val rfl rfl rfl (r_assign rfl) ?_
      refine l_val rfl rfl rfl (r_assign rfl) ?_
      refine l_val rfl rfl rfl (r_assign rfl) ?_
      refine l_nil ?_
      refine c_seq ?_
   
      refine c_ops ?_
      refine l_val rfl rfl rfl (r_move rfl) ?_
      refine l_nil ?_
      refine c_cond rfl (fun hb => ?_) (fun hb => ?_)
      · have hr23 := hb
        refine c_seq ?_
     
        refine c_ops ?_
        refine l_val rfl rfl rfl (r_move rfl) ?_
        refine l_val rfl rfl rfl (r_move rfl) ?_
        refine l_val rfl rfl rfl (r_assign rfl) ?_
        refine l_val rfl rfl rfl (r_assign rfl) ?_
        refine l_nil ?_
        refine c_ret ?_
        refine ByRes.of (r' := (unionF g f).2) (by unfold byF; rw [if_pos hr23]) ⟨_, rfl, hrow, hE⟩
      · have hr23 := hb
        have hm0 := hr23
        refine c_skip ?_
     
        refine c_ops ?_
        refine l_val rfl rfl rfl (r_add rfl rfl rfl) ?_
        refine l_val rfl rfl rfl (r_move rfl) ?_
        refine l_nil ?_
        refine ⟨by repeat (first | exact Agree.over _ _ _ | exact Agree.refl _ _ | (refine Agree.puto ?_ _ _ rfl) | (refine Agree.put ?_ _ _ rfl) | (refine Agree.sub ?_ rfl)), ?_⟩
        exact ⟨4 - (0 + 1), by omega, 0 + 1, by omega, rfl, by show Value.int .i64 (IntKind.i64.wrap (((0 : Nat) : Int) + 1)) = _; rw [wrap_succ (k := 0) (n := 4) (by decide) (by decide)], fun _ => hm0, fun h => absurd h (by decide), fun h => absurd h (by decide), by omega, hL, hE⟩
    · replace hm0 := hm0 (by decide)
      have h8 := union_no hm0
      have hpos := why_pos (hf.why h8)
      refine c_skip ?_
      refine c_seq ?_
      refine c_block ?_
      refine c_seq ?_
   
      refine c_ops ?_
      refine l_val rfl rfl rfl (r_index_arr rfl Tryz.underlying115 Tryz.sizeOf114 Tryz.isAgg114 rfl rfl (by decide) (by decide) rfl) ?_
      refine l_val rfl rfl rfl (r_assign rfl) ?_
      refine l_nil ?_
      refine c_seq ?_
   
      refine c_ops ?_
      refine l_val rfl rfl rfl (r_move rfl) ?_
      refine l_val rfl rfl rfl (r_load_blk_agg rfl Tryz.isAgg43 Tryz.sizeOf43 rfl (hL.get 0 rfl) rfl) ?_
      refine l_by rfl rfl rfl (r_call rfl rfl Tryz.func95 rfl rfl) (bound_calls _ xb Ag cg g (hg.keep RNode.kept (Ext0.cells hE)) hok (Ext0.cells hE _ _ hx0) f Aw cw (hw.keep RInt.kept (Ext0.cells hE)) hf h8) ?_
      rintro _ w ⟨v, rfl, hrow, hX⟩
      have hrow := ownsRow_base hrow hE.size
      replace hL := hL.ext0 hX
      replace hE := hE.trans hX
      refine ⟨_, rfl, ?_⟩
      refine l_val rfl rfl rfl (r_move rfl) ?_
      refine l_val rfl rfl rfl (r_extract rfl rfl rfl) ?_
      refine l_val rfl rfl rfl (r_extract rfl rfl rfl) ?_
      refine l_val rfl rfl rfl (r_extract rfl rfl rfl) ?_
      refine l_val rfl rfl rfl (r_assign rfl) ?_
      refine l_val rfl rfl rfl (r_assign rfl) ?_
      refine l_val rfl rfl rfl (r_assign rfl) ?_
      refine l_nil ?_
      refine c_seq ?_
   
      refine c_ops ?_
      refine l_val rfl rfl rfl (r_move rfl) ?_
      refine l_nil ?_
      refine c_cond rfl (fun hb => ?_) (fun hb => ?_)
      · have hr23 := hb
        refine c_seq ?_
     
        refine c_ops ?_
        refine l_val rfl rfl rfl (r_move rfl) ?_
        refine l_val rfl rfl rfl (r_move rfl) ?_
        refine l_val rfl rfl rfl (r_assign rfl) ?_
        refine l_val rfl rfl rfl (r_assign rfl) ?_
        refine l_nil ?_
        refine c_ret ?_
        refine ByRes.of (r' := (boundF g f).2) (by unfold byF; rw [if_neg (by rw [hm0]; decide), if_pos hr23]) ⟨_, rfl, hrow, hE⟩
      · have hr23 := hb
        have hm1 := hr23
        refine c_skip ?_
     
        refine c_ops ?_
        refine l_val rfl rfl rfl (r_add rfl rfl rfl) ?_
        refine l_val rfl rfl rfl (r_move rfl) ?_
        refine l_nil ?_
        refine ⟨by repeat (first | exact Agree.over _ _ _ | exact Agree.refl _ _ | (refine Agree.puto ?_ _ _ rfl) | (refine Agree.put ?_ _ _ rfl) | (refine Agree.sub ?_ rfl)), ?_⟩
        exact ⟨4 - (1 + 1), by omega, 1 + 1, by omega, rfl, by show Value.int .i64 (IntKind.i64.wrap (((1 : Nat) : Int) + 1)) = _; rw [wrap_succ (k := 1) (n := 4) (by decide) (by decide)], fun _ => hm0, fun _ => hm1, fun h => absurd h (by decide), by omega, hL, hE⟩
    · replace hm0 := hm0 (by decide)
      replace hm1 := hm1 (by decide)
      have h8 := union_no hm0
      have hpos := why_pos (hf.why h8)
      have hi := hf.idx h8 (bound_no hm1)
      refine c_skip ?_
      refine c_seq ?_
      refine c_block ?_
      refine c_seq ?_
   
      refine c_ops ?_
      refine l_val rfl rfl rfl (r_index_arr rfl Tryz.underlying115 Tryz.sizeOf114 Tryz.isAgg114 rfl rfl (by decide) (by decide) rfl) ?_
      refine l_val rfl rfl rfl (r_assign rfl) ?_
      refine l_nil ?_
      refine c_seq ?_
   
      refine c_ops ?_
      refine l_val rfl rfl rfl (r_move rfl) ?_
      refine l_val rfl rfl rfl (r_load_blk_agg rfl Tryz.isAgg43 Tryz.sizeOf43 rfl (hL.get 0 rfl) rfl) ?_
      refine l_by rfl rfl rfl (r_call rfl rfl Tryz.func96 rfl rfl) (loose_calls _ xb Ag cg g (hg.keep RNode.kept (Ext0.cells hE)) hok (Ext0.cells hE _ _ hx0) f Aw cw (hw.keep RInt.kept (Ext0.cells hE)) hf hi hpos) ?_
      rintro _ w ⟨v, rfl, hrow, hX⟩
      have hrow := ownsRow_base hrow hE.size
      replace hL := hL.ext0 hX
      replace hE := hE.trans hX
      refine ⟨_, rfl, ?_⟩
      refine l_val rfl rfl rfl (r_move rfl) ?_
      refine l_val rfl rfl rfl (r_extract rfl rfl rfl) ?_
      refine l_val rfl rfl rfl (r_extract rfl rfl rfl) ?_
      refine l_val rfl rfl rfl (r_extract rfl rfl rfl) ?_
      refine l_val rfl rfl rfl (r_assign rfl) ?_
      refine l_val rfl rfl rfl (r_assign rfl) ?_
      refine l_val rfl rfl rfl (r_assign rfl) ?_
      refine l_nil ?_
      refine c_seq ?_
   
      refine c_ops ?_
      refine l_val rfl rfl rfl (r_move rfl) ?_
      refine l_nil ?_
      refine c_cond rfl (fun hb => ?_) (fun hb => ?_)
      · have hr23 := hb
        refine c_seq ?_
     
        refine c_ops ?_
        refine l_val rfl rfl rfl (r_move rfl) ?_
        refine l_val rfl rfl rfl (r_move rfl) ?_
        refine l_val rfl rfl rfl (r_assign rfl) ?_
        refine l_val rfl rfl rfl (r_assign rfl) ?_
        refine l_nil ?_
        refine c_ret ?_
        refine ByRes.of (r' := (looseF g f).2) (by unfold byF; rw [if_neg (by rw [hm0]; decide), if_neg (by rw [hm1]; decide), if_pos hr23]) ⟨_, rfl, hrow, hE⟩
      · have hr23 := hb
        have hm2 := hr23
        refine c_skip ?_
     
        refine c_ops ?_
        refine l_val rfl rfl rfl (r_add rfl rfl rfl) ?_
        refine l_val rfl rfl rfl (r_move rfl) ?_
        refine l_nil ?_
        refine ⟨by repeat (first | exact Agree.over _ _ _ | exact Agree.refl _ _ | (refine Agree.puto ?_ _ _ rfl) | (refine Agree.put ?_ _ _ rfl) | (refine Agree.sub ?_ rfl)), ?_⟩
        exact ⟨4 - (2 + 1), by omega, 2 + 1, by omega, rfl, by show Value.int .i64 (IntKind.i64.wrap (((2 : Nat) : Int) + 1)) = _; rw [wrap_succ (k := 2) (n := 4) (by decide) (by decide)], fun _ => hm0, fun _ => hm1, fun _ => hm2, by omega, hL, hE⟩
    · replace hm0 := hm0 (by decide)
      replace hm1 := hm1 (by decide)
      replace hm2 := hm2 (by decide)
      have h8 := union_no hm0
      have hpos := why_pos (hf.why h8)
      have hi := hf.idx h8 (bound_no hm1)
      refine c_skip ?_
      refine c_seq ?_
      refine c_block ?_
      refine c_seq ?_
   
      refine c_ops ?_
      refine l_val rfl rfl rfl (r_index_arr rfl Tryz.underlying115 Tryz.sizeOf114 Tryz.isAgg114 rfl rfl (by decide) (by decide) rfl) ?_
      refine l_val rfl rfl rfl (r_assign rfl) ?_
      refine l_nil ?_
      refine c_seq ?_
   
      refine c_ops ?_
      refine l_val rfl rfl rfl (r_move rfl) ?_
      refine l_val rfl rfl rfl (r_load_blk_agg rfl Tryz.isAgg43 Tryz.sizeOf43 rfl (hL.get 0 rfl) rfl) ?_
      refine l_by rfl rfl rfl (r_call rfl rfl Tryz.func97 rfl rfl) (plain_calls _ xb Ag cg g (hg.keep RNode.kept (Ext0.cells hE)) hok (Ext0.cells hE _ _ hx0) f Aw cw (hw.keep RInt.kept (Ext0.cells hE)) hf h8 hi hpos) ?_
      rintro _ w ⟨v, rfl, hrow, hX⟩
      have hrow := ownsRow_base hrow hE.size
      replace hL := hL.ext0 hX
      replace hE := hE.trans hX
      refine ⟨_, rfl, ?_⟩
      refine l_val rfl rfl rfl (r_move rfl) ?_
      refine l_val rfl rfl rfl (r_extract rfl rfl rfl) ?_
      refine l_val rfl rfl rfl (r_extract rfl rfl rfl) ?_
      refine l_val rfl rfl rfl (r_extract rfl rfl rfl) ?_
      refine l_val rfl rfl rfl (r_assign rfl) ?_
      refine l_val rfl rfl rfl (r_assign rfl) ?_
      refine l_val rfl rfl rfl (r_assign rfl) ?_
      refine l_nil ?_
      refine c_seq ?_
   
      refine c_ops ?_
      refine l_val rfl rfl rfl (r_move rfl) ?_
      refine l_nil ?_
      refine c_cond rfl (fun hb => ?_) (fun hb => ?_)
      · have hr23 := hb
        refine c_seq ?_
     
        refine c_ops ?_
        refine l_val rfl rfl rfl (r_move rfl) ?_
        refine l_val rfl rfl rfl (r_move rfl) ?_
        refine l_val rfl rfl rfl (r_assign rfl) ?_
        refine l_val rfl rfl rfl (r_assign rfl) ?_
        refine l_nil ?_
        refine c_ret ?_
        refine ByRes.of (r' := (plainF g f).2) (by unfold byF; rw [if_neg (by rw [hm0]; decide), if_neg (by rw [hm1]; decide), if_neg (by rw [hm2]; decide)]) ⟨_, rfl, hrow, hE⟩
      · have hr23 := hb
        exact absurd hb (by show ¬ (true = false); decide)
  · have hr14 := hb
    replace hb := of_decide_eq_false hb
    exfalso
    omega
end Go.Proofs.YtndophlnapjkhaaGreatDoor.Vc
namespace Go.Proofs.YtndophlnapjkhaaGreatDoor.Vc
open Go Go.RowKit
set_option linter.unusedVariables false
set_option linter.unusedSimpArgs false
theorem formed1f_calls (w0 : World) (xp xb : Nat) (Af : Option Addr) (nl cf : Nat) (hx1 : w0.cell? ⟨xb, 1, none⟩ = some (.slice Af nl cf)) (t : TypeId) (k : Int) (hL : Has w0 [.blk xp (.cells #[.pointer (some ⟨xb, 0, none⟩)] t (0, 0))]) :
    Calls Tryz.prog 86 [.int .i64 k, .pointer (some ⟨xp, 0, none⟩)].toArray w0 fun en w' => en = .returned (.bool (outB nl k)) ∧ Ext0 w0 w' := by
  have hE : Ext0 w0 w0 := Ext.refl _ _
  refine calls [3] Tryz.func86 rfl rfl rfl rfl ?_
  refine c_seq ?_
  refine c_ops ?_
  refine l_val rfl rfl rfl (r_assign rfl) ?_
  refine l_nil ?_
  refine c_seq ?_
  refine c_ops ?_
  refine l_val rfl rfl rfl (r_move rfl) ?_
  refine l_val rfl rfl rfl (r_lss rfl rfl rfl) ?_
  refine l_val rfl rfl rfl (r_move rfl) ?_
  refine l_case 6 rfl (fun hb => ?_) (fun hb => ?_)
  · have hr6 := hb
    replace hb := of_decide_eq_true hb
    refine l_not rfl rfl rfl ?_
    refine l_not rfl rfl rfl ?_
    refine l_not rfl rfl rfl ?_
    refine l_not rfl rfl rfl ?_
    refine l_not rfl rfl rfl ?_
    refine l_not rfl rfl rfl ?_
    refine l_not rfl rfl rfl ?_
    refine l_val rfl rfl rfl (r_pick rfl rfl) ?_
    refine l_val rfl rfl rfl (r_assign rfl) ?_
    refine l_nil ?_
    refine c_ret ?_
    exact ⟨ret_bool rfl (by simp only [outB, hr6, Bool.true_and, Bool.and_true, Bool.false_and, Bool.and_false, Bool.true_or, Bool.or_true, Bool.false_or, Bool.or_false, Bool.not_true, Bool.not_false, cond_true, cond_false]), hE⟩
  · have hr6 := hb
    replace hb := of_decide_eq_false hb
    refine l_val rfl rfl rfl (r_move rfl) ?_
    refine l_val rfl rfl rfl (r_load_blk rfl Tryz.isAgg71 rfl (hL.get 0 rfl) rfl) ?_
    refine l_val rfl rfl rfl (r_nilCheck rfl rfl) ?_
    refine l_val rfl rfl rfl (r_fieldAddr (n := 0) rfl Tryz.underlying51 rfl Tryz.sizeOf25 rfl) ?_
    refine l_val rfl rfl rfl (r_load rfl Tryz.isAgg25 rfl (Ext0.cells hE _ _ hx1)) ?_
    refine l_val rfl rfl rfl (r_len rfl Tryz.underlying25 rfl) ?_
    refine l_val rfl rfl rfl (r_geq rfl rfl rfl) ?_
    refine l_val rfl rfl rfl (r_pick rfl rfl) ?_
    refine l_val rfl rfl rfl (r_assign rfl) ?_
    refine l_nil ?_
    refine c_ret ?_
    exact ⟨ret_bool rfl (by simp only [outB, hr6, Bool.true_and, Bool.and_true, Bool.false_and, Bool.and_false, Bool.true_or, Bool.or_true, Bool.false_or, Bool.or_false, Bool.not_true, Bool.not_false, cond_true, cond_false]), hE⟩
def manyF (g : List GNode) (f : Fact) : Option Int :=
  if (gat g f.a).kind = 8 then some (gat g f.a).l.length
  else if f.why.length = 0 then none
  else if (gat g f.a).kind = 9 ∧ iat f.why 0 = -1 then some 2
  else if iat f.why 0 < 0 ∨ (membersG g f.b).length ≤ iat f.why 0 then none
  else if (gat g f.a).kind = 7 ∧ (chosenF g f).kind = 7 then some (1 + (chosenF g f).keys.length)
  else if (gat g f.a).kind = 9 ∧ (chosenF g f).kind = 9 then some 2
  else some 1
def formedF (g : List GNode) (nl : Nat) (f : Fact) : Bool := placeB g.length f.a && placeB g.length f.b && match manyF g f with
  | none => false
  | some m => decide ((f.why.length : Int) = m) && !(onF g f).any (outB nl)
theorem formed_some {g : List GNode} {nl : Nat} {f : Fact} {m : Int} (ha : placeB g.length f.a = true) (hb : placeB g.length f.b = true) (hm : manyF g f = some m) : formedF g nl f = (decide ((f.why.length : Int) = m) && !(onF g f).any (outB nl)) := by
  unfold formedF
  rw [ha, hb, hm]
  rfl
theorem formed_none {g : List GNode} {nl : Nat} {f : Fact} (hm : manyF g f = none) : formedF g nl f = false := by
  unfold formedF
  rw [hm]
  simp
theorem fact_formed_calls (w0 : World) (xb : Nat) (Ag : Option Addr) (cg : Nat) (g : List GNode) (hg : Nodes w0 Ag cg g) (hok : GraphOk g) (hx0 : w0.cell? ⟨xb, 0, none⟩ = some (.slice Ag g.length cg)) (Af : Option Addr) (nl cf : Nat) (hx1 : w0.cell? ⟨xb, 1, none⟩ = some (.slice Af nl cf)) (f : Fact) (Aw : Option Addr) (cw : Nat) (hw : Ints w0 Aw cw f.why) :
    Calls Tryz.prog 61 [.pointer (some ⟨xb, 0, none⟩), .agg (factCells f Aw cw).toArray].toArray w0 fun en w' => en = .returned (.bool (formedF g nl f)) ∧ Ext0 w0 w' := by
  have hE : Ext0 w0 w0 := Ext.refl _ _
  have hL : Has w0 [] := trivial
  refine calls [4] Tryz.func61 rfl rfl rfl rfl ?_
  refine c_seq ?_
  refine c_ops ?_
  refine l_new rfl rfl rfl (n_box rfl hL hE) ?_
  rintro _ w ⟨b2, rfl, hb2, hL, hE, hX⟩
  refine l_new rfl rfl rfl (n_box rfl hL hE) ?_
  rintro _ w ⟨b3, rfl, hb3, hL, hE, hX⟩
  refine l_val rfl rfl rfl (r_assign rfl) ?_
  refine l_nil ?_
  refine c_seq ?_
  refine c_merge [9, 10, 11, 12, 13, 14, 15, 16, 17, 18, 19, 20] (fun e w => e 20 = .bool (!placeB g.length f.a || !placeB g.length f.b) ∧ Has w [.blk b3 (.cells (factCells f Aw cw).toArray 43 (0, 0)), .blk b2 (.cells #[.pointer (some ⟨xb, 0, none⟩)] 71 (0, 0))] ∧ Ext0 w0 w) ?_ ?_
  · skip
 
    refine c_ops ?_
    refine l_val rfl rfl rfl (r_load_blk rfl Tryz.isAgg71 rfl (hL.get 1 rfl) rfl) ?_
    refine l_val rfl rfl rfl (r_fieldAddr (n := 0) rfl Tryz.underlying43 rfl Tryz.sizeOf3 rfl) ?_
    refine l_val rfl rfl rfl (r_load_blk rfl Tryz.isAgg3 rfl (hL.get 0 rfl) rfl) ?_
    refine l_by rfl rfl rfl (r_call rfl rfl Tryz.func27 rfl rfl) (place_calls _ xb Ag cg g.length (Ext0.cells hE _ _ hx0) f.a) ?_
    rintro _ w ⟨rfl, hX⟩
    replace hL := hL.ext0 hX
    replace hE := hE.trans hX
    refine ⟨_, rfl, ?_⟩
    refine l_val rfl rfl rfl (r_not rfl rfl) ?_
    refine l_val rfl rfl rfl (r_move rfl) ?_
    refine l_case 14 rfl (fun hb => ?_) (fun hb => ?_)
    · have hr14 := hb
      refine l_not rfl rfl rfl ?_
      refine l_not rfl rfl rfl ?_
      refine l_not rfl rfl rfl ?_
      refine l_not rfl rfl rfl ?_
      refine l_not rfl rfl rfl ?_
      refine l_val rfl rfl rfl (r_pick rfl rfl) ?_
      refine l_nil ?_
      refine ⟨by repeat (first | exact Agree.over _ _ _ | exact Agree.refl _ _ | (refine Agree.puto ?_ _ _ rfl) | (refine Agree.put ?_ _ _ rfl) | (refine Agree.sub ?_ rfl)), ?_⟩
      exact ⟨congrArg Value.bool (by simp only [hr14, Bool.true_and, Bool.and_true, Bool.false_and, Bool.and_false, Bool.true_or, Bool.or_true, Bool.false_or, Bool.or_false, Bool.not_true, Bool.not_false, cond_true, cond_false]), hL, hE⟩
    · have hr14 := hb
      refine l_val rfl rfl rfl (r_load_blk rfl Tryz.isAgg71 rfl (hL.get 1 rfl) rfl) ?_
      refine l_val rfl rfl rfl (r_fieldAddr (n := 0) rfl Tryz.underlying43 rfl Tryz.sizeOf3 rfl) ?_
      refine l_val rfl rfl rfl (r_load_blk rfl Tryz.isAgg3 rfl (hL.get 0 rfl) rfl) ?_
      refine l_by rfl rfl rfl (r_call rfl rfl Tryz.func27 rfl rfl) (place_calls _ xb Ag cg g.length (Ext0.cells hE _ _ hx0) f.b) ?_
      rintro _ w ⟨rfl, hX⟩
      replace hL := hL.ext0 hX
      replace hE := hE.trans hX
      refine ⟨_, rfl, ?_⟩
      refine l_val rfl rfl rfl (r_not rfl rfl) ?_
      refine l_val rfl rfl rfl (r_pick rfl rfl) ?_
      refine l_nil ?_
      refine ⟨by repeat (first | exact Agree.over _ _ _ | exact Agree.refl _ _ | (refine Agree.puto ?_ _ _ rfl) | (refine Agree.put ?_ _ _ rfl) | (refine Agree.sub ?_ rfl)), ?_⟩
      exact ⟨congrArg Value.bool (by simp only [hr14, Bool.true_and, Bool.and_true, Bool.false_and, Bool.and_false, Bool.true_or, Bool.or_true, Bool.false_or, Bool.or_false, Bool.not_true, Bool.not_false, cond_true, cond_false]), hL, hE⟩
  rintro e w hI
  obtain ⟨hm20, hL, hE⟩ := hI
  refine c_know hm20 ?_
  refine c_cond rfl (fun hb => ?_) (fun hb => ?_)
  · have hr20 := hb
    have hno : formedF g nl f = false := by
      unfold formedF
      cases h1 : placeB g.length f.a <;> cases h2 : placeB g.length f.b <;> simp_all
    refine c_seq ?_
 
    refine c_ops ?_
    refine l_val rfl rfl rfl (r_assign rfl) ?_
    refine l_nil ?_
    refine c_ret ?_
    exact ⟨ret_bool rfl hno.symm, hE⟩
  · have hr20 := hb
    have hpp : placeB g.length f.a = true ∧ placeB g.length f.b = true := by cases h1 : placeB g.length f.a <;> cases h2 : placeB g.length f.b <;> simp_all
    have hra : 0 ≤ f.a ∧ f.a < g.length := by have := hpp.1; unfold placeB at this; simpa using this
    have hrb : 0 ≤ f.b ∧ f.b < g.length := by have := hpp.2; unfold placeB at this; simpa using this
    obtain ⟨Ak, ck, Al, cl, hcell, hsk, hsl⟩ := hg.node f.a hra.1 hra.2
    obtain ⟨a, ha⟩ : ∃ a, a = gat g f.a := ⟨_, rfl⟩
    rw [← ha] at hcell hsk hsl
    refine c_skip ?_
    refine c_seq ?_
 
    refine c_draw mixed (hL) hE ?_
    replace hL := hL.drew
    replace hE := hE.drew
    have hK := hL
    refine h_t 0 rfl rfl (by kernel_rfl) (fun _ _ _ h => h) ⟨hK, hE⟩ rfl (fun W hW => r_load_blk rfl Tryz.isAgg71 rfl (hW.1.get 1 rfl) rfl) ?_
    refine h_t 1 rfl rfl (by kernel_rfl) (fun _ _ _ h => h) ⟨hK, hE⟩ rfl (fun W hW => r_nilCheck rfl rfl) ?_
    refine h_t 2 rfl rfl (by kernel_rfl) (fun _ _ _ h => h) ⟨hK, hE⟩ rfl (fun W hW => r_fieldAddr (n := 0) rfl Tryz.underlying51 rfl Tryz.sizeOf22 rfl) ?_
    refine h_t 3 rfl rfl (by kernel_rfl) (fun _ _ _ h => h) ⟨hK, hE⟩ rfl (fun W hW => r_load rfl Tryz.isAgg22 rfl (Ext0.cells hW.2 _ _ hx0)) ?_
    refine h_t 4 rfl rfl (by kernel_rfl) (fun _ _ _ h => h) ⟨hK, hE⟩ rfl (fun W hW => r_fieldAddr (n := 0) rfl Tryz.underlying43 rfl Tryz.sizeOf3 rfl) ?_
    refine h_t 5 rfl rfl (by kernel_rfl) (fun _ _ _ h => h) ⟨hK, hE⟩ rfl (fun W hW => r_load_blk rfl Tryz.isAgg3 rfl (hW.1.get 0 rfl) rfl) ?_
    refine h_t 6 rfl rfl (by kernel_rfl) (fun _ _ _ h => h) ⟨hK, hE⟩ rfl (fun W hW => r_indexAddr_sl rfl Tryz.underlying22 Tryz.sizeOf46 rfl hg.is rfl hra.1 hra.2) ?_
    refine h_t 7 rfl rfl (by kernel_rfl) (fun _ _ _ h => h) ⟨hK, hE⟩ rfl (fun W hW => r_load_agg (vs := nodeCells a Ak ck Al cl) rfl Tryz.isAgg46 Tryz.sizeOf46 rfl (fun j v hj => Ext0.cells hW.2 _ _ (hcell j v hj))) ?_
    refine h_new 8 rfl rfl (by kernel_rfl) rfl (n_alloc rfl Tryz.zeroValue46 hL hE) ?_
    rintro _ w ⟨b5, rfl, hb5, hL, hE, hX⟩
    have hK := hL.sub (.cons _ (.cons_cons _ (.cons_cons _ .slnil)))
    refine ⟨⟨hK, hE⟩, ?_⟩
    refine h_new_do 9 rfl rfl (by kernel_rfl) rfl (r_store 0 rfl Tryz.sizeOf46 rfl hL hE rfl rfl rfl rfl (fun h => absurd h (Nat.not_lt.2 hb5))) ?_
    rintro w ⟨hL, hE, hz, hk⟩
    have hK := hL.sub (.cons _ (.cons_cons _ (.cons_cons _ .slnil)))
    refine ⟨⟨hK, hE⟩, ?_⟩
    refine h_t 10 rfl rfl (by kernel_rfl) (fun _ _ _ h => h) ⟨hK, hE⟩ rfl (fun W hW => r_assign rfl) ?_
    refine h_done (by kernel_rfl) ?_
    refine c_seq ?_
    refine c_block ?_
    refine c_seq ?_
 
    refine c_ops ?_
    refine l_val rfl rfl rfl (r_fieldAddr (n := 0) rfl Tryz.underlying46 rfl Tryz.sizeOf3 rfl) ?_
    refine l_val rfl rfl rfl (r_load_blk rfl Tryz.isAgg3 rfl (hL.get 0 rfl) rfl) ?_
    refine l_val rfl rfl rfl (r_eql rfl rfl rfl) ?_
    refine l_val rfl rfl rfl (r_assign rfl) ?_
    refine l_nil ?_
    refine c_cond rfl (fun hb => ?_) (fun hb => ?_)
    · have hr57 := hb
      replace hb := of_decide_eq_true hb
      have h8 : (gat g f.a).kind = 8 := by rw [← ha]; exact hb
      have hform := formed_some (nl := nl) hpp.1 hpp.2 (show manyF g f = some (a.l.length : Int) by unfold manyF; rw [if_pos h8, ha])
      have hf : FactOk g f := ⟨hra, hrb, fun h => absurd h8 h, fun h => absurd h8 h⟩
   
      refine c_ops ?_
      refine l_val rfl rfl rfl (r_fieldAddr (n := 0) rfl Tryz.underlying46 rfl Tryz.sizeOf26 rfl) ?_
      refine l_val rfl rfl rfl (r_load_blk rfl Tryz.isAgg26 rfl (hL.get 0 rfl) rfl) ?_
      refine l_val rfl rfl rfl (r_len rfl Tryz.underlying26 rfl) ?_
      refine l_val rfl rfl rfl (r_assign rfl) ?_
      refine l_nil ?_
      refine c_seq ?_
   
      refine c_ops ?_
      refine l_val rfl rfl rfl (r_makeFunc rfl) ?_
      refine l_val rfl rfl rfl (r_assign rfl) ?_
      refine l_nil ?_
      refine c_seq ?_
   
      refine c_ops ?_
      refine l_val rfl rfl rfl (r_fieldAddr (n := 0) rfl Tryz.underlying43 rfl Tryz.sizeOf26 rfl) ?_
      refine l_val rfl rfl rfl (r_load_blk rfl Tryz.isAgg26 rfl (hL.get 1 rfl) rfl) ?_
      refine l_val rfl rfl rfl (r_len rfl Tryz.underlying26 rfl) ?_
      refine l_val rfl rfl rfl (r_move rfl) ?_
      refine l_val rfl rfl rfl (r_eql rfl rfl rfl) ?_
      refine l_val rfl rfl rfl (r_move rfl) ?_
      refine l_case 107 rfl (fun hb => ?_) (fun hb => ?_)
      · have hr107 := hb
        replace hb := of_decide_eq_true hb
        refine l_val rfl rfl rfl (r_load_blk rfl Tryz.isAgg71 rfl (hL.get 2 rfl) rfl) ?_
        refine l_val rfl rfl rfl (r_load_blk_agg rfl Tryz.isAgg43 Tryz.sizeOf43 rfl (hL.get 1 rfl) rfl) ?_
        refine l_by rfl rfl rfl (r_call rfl rfl Tryz.func44 rfl rfl) (on_calls _ xb Ag cg g (hg.keep RNode.kept (Ext0.cells hE)) hok (Ext0.cells hE _ _ hx0) f Aw cw (hw.keep RInt.kept (Ext0.cells hE)) hf) ?_
        rintro _ w ⟨Ao, co, rfl, hon, hX⟩
        replace hL := hL.ext0 hX
        replace hE := hE.trans hX
        refine ⟨_, rfl, ?_⟩
        refine l_val rfl rfl rfl (r_move rfl) ?_
        have hT : Tests Tryz.prog (fun (_ : Unit) W => Has W [.blk b2 (.cells #[.pointer (some ⟨xb, 0, none⟩)] 71 (0, 0))] ∧ Ext0 w0 W) (fun _ => False) (D1 RInt) (fun _ k => (outB nl k, ())) (.func (.func 86) #[] #[.pointer (some ⟨b2, 0, none⟩)]) := ⟨_, _, _, _, _, rfl, Tryz.func86, rfl, rfl, fun _ k v W hs hv => (by
          obtain rfl : v = .int .i64 k := by injection hv
          exact (formed1f_calls W b2 xb Af nl cf (Ext0.cells hs.2 _ _ hx1) _ k hs.1).mono (fun en w' ⟨h1, h2⟩ => ⟨h1, h2, hs.1.ext0 h2, hs.2.trans h2⟩))⟩
        refine l_by rfl rfl rfl (r_call rfl rfl Tryz.func42 rfl rfl) (ContainsFunc_int (fun (_ : Unit) W => Has W [.blk b2 (.cells #[.pointer (some ⟨xb, 0, none⟩)] 71 (0, 0))] ∧ Ext0 w0 W) (fun _ => False) RInt (fun _ k => (outB nl k, ())) _ _ _ _ (onF g f) _ () (fun W hW => hon W (hw.keep RInt.kept (Ext0.cells (hE.trans hW)))) hT ⟨(Has.right (L1 := [_, _]) hL), hE⟩) ?_
        rintro _ w ⟨rfl, hX, hY⟩
        replace hE := hE.step0 hX
        rw [findS_pure]
        refine ⟨_, rfl, ?_⟩
        refine l_val rfl rfl rfl (r_not rfl rfl) ?_
        refine l_val rfl rfl rfl (r_pick rfl rfl) ?_
        refine l_val rfl rfl rfl (r_assign rfl) ?_
        refine l_nil ?_
        refine c_ret ?_
        exact ⟨ret_bool rfl (by rw [hform]; simp only [hr107, Bool.true_and, Bool.and_true, Bool.false_and, Bool.and_false, Bool.true_or, Bool.or_true, Bool.false_or, Bool.or_false, Bool.not_true, Bool.not_false, cond_true, cond_false]), hE⟩
      · have hr107 := hb
        replace hb := of_decide_eq_false hb
        refine l_not rfl rfl rfl ?_
        refine l_not rfl rfl rfl ?_
        refine l_not rfl rfl rfl ?_
        refine l_not rfl rfl rfl ?_
        refine l_not rfl rfl rfl ?_
        refine l_not rfl rfl rfl ?_
        refine l_val rfl rfl rfl (r_pick rfl rfl) ?_
        refine l_val rfl rfl rfl (r_assign rfl) ?_
        refine l_nil ?_
        refine c_ret ?_
        exact ⟨ret_bool rfl (by rw [hform]; simp only [hr107, Bool.true_and, Bool.and_true, Bool.false_and, Bool.and_false, Bool.true_or, Bool.or_true, Bool.false_or, Bool.or_false, Bool.not_true, Bool.not_false, cond_true, cond_false]), hE⟩
    · have hr57 := hb
      replace hb := of_decide_eq_false hb
      have h8 : ¬ (gat g f.a).kind = 8 := by rw [← ha]; exact hb
      refine c_seq ?_
   
      refine c_ops ?_
      refine l_val rfl rfl rfl (r_fieldAddr (n := 0) rfl Tryz.underlying43 rfl Tryz.sizeOf26 rfl) ?_
      refine l_val rfl rfl rfl (r_load_blk rfl Tryz.isAgg26 rfl (hL.get 1 rfl) rfl) ?_
      refine l_val rfl rfl rfl (r_len rfl Tryz.underlying26 rfl) ?_
      refine l_val rfl rfl rfl (r_eql rfl rfl rfl) ?_
      refine l_val rfl rfl rfl (r_assign rfl) ?_
      refine l_nil ?_
      refine c_cond rfl (fun hb => ?_) (fun hb => ?_)
      · have hr64 := hb
        replace hb := of_decide_eq_true hb
        have hno := formed_none (nl := nl) (show manyF g f = none by unfold manyF; rw [if_neg h8, if_pos (by omega)])
        refine c_seq ?_
     
        refine c_ops ?_
        refine l_val rfl rfl rfl (r_assign rfl) ?_
        refine l_nil ?_
        refine c_ret ?_
        exact ⟨ret_bool rfl hno.symm, hE⟩
      · have hr64 := hb
        replace hb := of_decide_eq_false hb
        have hne : ¬ f.why.length = 0 := by omega
        refine c_merge [69, 70, 71, 72, 73, 74, 75, 76, 77, 78, 79] (fun e w => e 69 = .bool (decide (a.kind = 9) && decide (iat f.why 0 = -1)) ∧ Has w [.blk b5 (.cells (nodeCells a Ak ck Al cl).toArray 46 (0, 0)), .blk b3 (.cells (factCells f Aw cw).toArray 43 (0, 0)), .blk b2 (.cells #[.pointer (some ⟨xb, 0, none⟩)] 71 (0, 0))] ∧ Ext0 w0 w) ?_ ?_
        · skip
       
          refine c_ops ?_
          refine l_val rfl rfl rfl (r_fieldAddr (n := 0) rfl Tryz.underlying46 rfl Tryz.sizeOf3 rfl) ?_
          refine l_val rfl rfl rfl (r_load_blk rfl Tryz.isAgg3 rfl (hL.get 0 rfl) rfl) ?_
          refine l_val rfl rfl rfl (r_eql rfl rfl rfl) ?_
          refine l_val rfl rfl rfl (r_move rfl) ?_
          refine l_case 73 rfl (fun hb => ?_) (fun hb => ?_)
          · have hr73 := hb
            replace hb := of_decide_eq_true hb
            refine l_val rfl rfl rfl (r_fieldAddr (n := 0) rfl Tryz.underlying43 rfl Tryz.sizeOf26 rfl) ?_
            refine l_val rfl rfl rfl (r_load_blk rfl Tryz.isAgg26 rfl (hL.get 1 rfl) rfl) ?_
            refine l_val rfl rfl rfl (r_indexAddr_sl rfl Tryz.underlying26 Tryz.sizeOf3 rfl hw.is rfl (by decide) (by omega)) ?_
            refine l_val rfl rfl rfl (r_load (v := .int .i64 (iat f.why 0)) rfl Tryz.isAgg3 rfl ((hw.keep RInt.kept (Ext0.cells hE)).int 0 (by decide) (by omega))) ?_
            refine l_val rfl rfl rfl (r_eql rfl rfl rfl) ?_
            refine l_val rfl rfl rfl (r_pick rfl rfl) ?_
            refine l_val rfl rfl rfl (r_assign rfl) ?_
            refine l_nil ?_
            refine ⟨by repeat (first | exact Agree.over _ _ _ | exact Agree.refl _ _ | (refine Agree.puto ?_ _ _ rfl) | (refine Agree.put ?_ _ _ rfl) | (refine Agree.sub ?_ rfl)), ?_⟩
            exact ⟨congrArg Value.bool (by simp only [hr73, Bool.true_and, Bool.and_true, Bool.false_and, Bool.and_false, Bool.true_or, Bool.or_true, Bool.false_or, Bool.or_false, Bool.not_true, Bool.not_false, cond_true, cond_false]), hL, hE⟩
          · have hr73 := hb
            replace hb := of_decide_eq_false hb
            refine l_not rfl rfl rfl ?_
            refine l_not rfl rfl rfl ?_
            refine l_not rfl rfl rfl ?_
            refine l_not rfl rfl rfl ?_
            refine l_not rfl rfl rfl ?_
            refine l_val rfl rfl rfl (r_pick rfl rfl) ?_
            refine l_val rfl rfl rfl (r_assign rfl) ?_
            refine l_nil ?_
            refine ⟨by repeat (first | exact Agree.over _ _ _ | exact Agree.refl _ _ | (refine Agree.puto ?_ _ _ rfl) | (refine Agree.put ?_ _ _ rfl) | (refine Agree.sub ?_ rfl)), ?_⟩
            exact ⟨congrArg Value.bool (by simp only [hr73, Bool.true_and, Bool.and_true, Bool.false_and, Bool.and_false, Bool.true_or, Bool.or_true, Bool.false_or, Bool.or_false, Bool.not_true, Bool.not_false, cond_true, cond_false]), hL, hE⟩
        rintro e w hI
        obtain ⟨hm69, hL, hE⟩ := hI
        refine c_know hm69 ?_
        refine c_cond rfl (fun hb => ?_) (fun hb => ?_)
        · have hr69 := hb
          have h9 : (gat g f.a).kind = 9 ∧ iat f.why 0 = -1 := by rw [← ha]; simpa using hb
          have hform := formed_some (nl := nl) hpp.1 hpp.2 (show manyF g f = some 2 by unfold manyF; rw [if_neg h8, if_neg hne, if_pos h9])
          have hf : FactOk g f := ⟨hra, hrb, fun _ => by intro h0; rw [h0] at hne; exact hne rfl, fun _ h => absurd h9 h⟩
       
          refine c_ops ?_
          refine l_val rfl rfl rfl (r_assign rfl) ?_
          refine l_nil ?_
          refine c_seq ?_
       
          refine c_ops ?_
          refine l_val rfl rfl rfl (r_makeFunc rfl) ?_
          refine l_val rfl rfl rfl (r_assign rfl) ?_
          refine l_nil ?_
          refine c_seq ?_
       
          refine c_ops ?_
          refine l_val rfl rfl rfl (r_fieldAddr (n := 0) rfl Tryz.underlying43 rfl Tryz.sizeOf26 rfl) ?_
          refine l_val rfl rfl rfl (r_load_blk rfl Tryz.isAgg26 rfl (hL.get 1 rfl) rfl) ?_
          refine l_val rfl rfl rfl (r_len rfl Tryz.underlying26 rfl) ?_
          refine l_val rfl rfl rfl (r_move rfl) ?_
          refine l_val rfl rfl rfl (r_eql rfl rfl rfl) ?_
          refine l_val rfl rfl rfl (r_move rfl) ?_
          refine l_case 107 rfl (fun hb => ?_) (fun hb => ?_)
          · have hr107 := hb
            replace hb := of_decide_eq_true hb
            refine l_val rfl rfl rfl (r_load_blk rfl Tryz.isAgg71 rfl (hL.get 2 rfl) rfl) ?_
            refine l_val rfl rfl rfl (r_load_blk_agg rfl Tryz.isAgg43 Tryz.sizeOf43 rfl (hL.get 1 rfl) rfl) ?_
            refine l_by rfl rfl rfl (r_call rfl rfl Tryz.func44 rfl rfl) (on_calls _ xb Ag cg g (hg.keep RNode.kept (Ext0.cells hE)) hok (Ext0.cells hE _ _ hx0) f Aw cw (hw.keep RInt.kept (Ext0.cells hE)) hf) ?_
            rintro _ w ⟨Ao, co, rfl, hon, hX⟩
            replace hL := hL.ext0 hX
            replace hE := hE.trans hX
            refine ⟨_, rfl, ?_⟩
            refine l_val rfl rfl rfl (r_move rfl) ?_
            have hT : Tests Tryz.prog (fun (_ : Unit) W => Has W [.blk b2 (.cells #[.pointer (some ⟨xb, 0, none⟩)] 71 (0, 0))] ∧ Ext0 w0 W) (fun _ => False) (D1 RInt) (fun _ k => (outB nl k, ())) (.func (.func 86) #[] #[.pointer (some ⟨b2, 0, none⟩)]) := ⟨_, _, _, _, _, rfl, Tryz.func86, rfl, rfl, fun _ k v W hs hv => (by
              obtain rfl : v = .int .i64 k := by injection hv
              exact (formed1f_calls W b2 xb Af nl cf (Ext0.cells hs.2 _ _ hx1) _ k hs.1).mono (fun en w' ⟨h1, h2⟩ => ⟨h1, h2, hs.1.ext0 h2, hs.2.trans h2⟩))⟩
            refine l_by rfl rfl rfl (r_call rfl rfl Tryz.func42 rfl rfl) (ContainsFunc_int (fun (_ : Unit) W => Has W [.blk b2 (.cells #[.pointer (some ⟨xb, 0, none⟩)] 71 (0, 0))] ∧ Ext0 w0 W) (fun _ => False) RInt (fun _ k => (outB nl k, ())) _ _ _ _ (onF g f) _ () (fun W hW => hon W (hw.keep RInt.kept (Ext0.cells (hE.trans hW)))) hT ⟨(Has.right (L1 := [_, _]) hL), hE⟩) ?_
            rintro _ w ⟨rfl, hX, hY⟩
            replace hE := hE.step0 hX
            rw [findS_pure]
            refine ⟨_, rfl, ?_⟩
            refine l_val rfl rfl rfl (r_not rfl rfl) ?_
            refine l_val rfl rfl rfl (r_pick rfl rfl) ?_
            refine l_val rfl rfl rfl (r_assign rfl) ?_
            refine l_nil ?_
            refine c_ret ?_
            exact ⟨ret_bool rfl (by rw [hform]; simp only [hr107, Bool.true_and, Bool.and_true, Bool.false_and, Bool.and_false, Bool.true_or, Bool.or_true, Bool.false_or, Bool.or_false, Bool.not_true, Bool.not_false, cond_true, cond_false]), hE⟩
          · have hr107 := hb
            replace hb := of_decide_eq_false hb
            refine l_not rfl rfl rfl ?_
            refine l_not rfl rfl rfl ?_
            refine l_not rfl rfl rfl ?_
            refine l_not rfl rfl rfl ?_
            refine l_not rfl rfl rfl ?_
            refine l_not rfl rfl rfl ?_
            refine l_val rfl rfl rfl (r_pick rfl rfl) ?_
            refine l_val rfl rfl rfl (r_assign rfl) ?_
            refine l_nil ?_
            refine c_ret ?_
            exact ⟨ret_bool rfl (by rw [hform]; simp only [hr107, Bool.true_and, Bool.and_true, Bool.false_and, Bool.and_false, Bool.true_or, Bool.or_true, Bool.false_or, Bool.or_false, Bool.not_true, Bool.not_false, cond_true, cond_false]), hE⟩
        · have hr69 := hb
          have h9 : ¬ ((gat g f.a).kind = 9 ∧ iat f.why 0 = -1) := by rw [← ha]; simpa using hb
          refine c_merge [80, 81, 82, 83, 84, 85, 86, 87, 88, 89, 90, 91, 92, 93, 94, 95, 96, 97, 98, 99, 100] (fun e w => e 80 = .bool (decide (iat f.why 0 < 0) || decide (((membersG g f.b).length : Int) ≤ iat f.why 0)) ∧ Has w [.blk b5 (.cells (nodeCells a Ak ck Al cl).toArray 46 (0, 0)), .blk b3 (.cells (factCells f Aw cw).toArray 43 (0, 0)), .blk b2 (.cells #[.pointer (some ⟨xb, 0, none⟩)] 71 (0, 0))] ∧ Ext0 w0 w) ?_ ?_
          · skip
         
            refine c_draw mixed (hL) hE ?_
            replace hL := hL.drew
            replace hE := hE.drew
            have hK := hL
            refine h_t 0 rfl rfl (by kernel_rfl) (fun _ _ _ h => h) ⟨hK, hE⟩ rfl (fun W hW => r_fieldAddr (n := 0) rfl Tryz.underlying43 rfl Tryz.sizeOf26 rfl) ?_
            refine h_t 1 rfl rfl (by kernel_rfl) (fun _ _ _ h => h) ⟨hK, hE⟩ rfl (fun W hW => r_load_blk rfl Tryz.isAgg26 rfl (hW.1.get 1 rfl) rfl) ?_
            refine h_t 2 rfl rfl (by kernel_rfl) (fun _ _ _ h => h) ⟨hK, hE⟩ rfl (fun W hW => r_indexAddr_sl rfl Tryz.underlying26 Tryz.sizeOf3 rfl hw.is rfl (by decide) (by omega)) ?_
            refine h_t 3 rfl rfl (by kernel_rfl) (fun _ _ _ h => h) ⟨hK, hE⟩ rfl (fun W hW => r_load (v := .int .i64 (iat f.why 0)) rfl Tryz.isAgg3 rfl ((hw.keep RInt.kept (Ext0.cells hW.2)).int 0 (by decide) (by omega))) ?_
            refine h_t 4 rfl rfl (by kernel_rfl) (fun _ _ _ h => h) ⟨hK, hE⟩ rfl (fun W hW => r_lss rfl rfl rfl) ?_
            refine h_t 5 rfl rfl (by kernel_rfl) (fun _ _ _ h => h) ⟨hK, hE⟩ rfl (fun W hW => r_move rfl) ?_
            refine h_case 86 rfl (fun hb => ?_) (fun hb => ?_)
            · have hr86 := hb
              replace hb := of_decide_eq_true hb
              refine h_n 6 rfl rfl (by kernel_rfl) (fun _ _ _ h => h) ⟨hK, hE⟩ rfl ?_
              refine h_n 7 rfl rfl (by kernel_rfl) (fun _ _ _ h => h) ⟨hK, hE⟩ rfl ?_
              refine h_n 8 rfl rfl (by kernel_rfl) (fun _ _ _ h => h) ⟨hK, hE⟩ rfl ?_
              refine h_n 9 rfl rfl (by kernel_rfl) (fun _ _ _ h => h) ⟨hK, hE⟩ rfl ?_
              refine h_n 10 rfl rfl (by kernel_rfl) (fun _ _ _ h => h) ⟨hK, hE⟩ rfl ?_
              refine h_n 11 rfl rfl (by kernel_rfl) (fun _ _ _ h => h) ⟨hK, hE⟩ rfl ?_
              refine h_n 12 rfl rfl (by kernel_rfl) (fun _ _ _ h => h) ⟨hK, hE⟩ rfl ?_
              refine h_n 13 rfl rfl (by kernel_rfl) (fun _ _ _ h => h) ⟨hK, hE⟩ rfl ?_
              refine h_n 14 rfl rfl (by kernel_rfl) (fun _ _ _ h => h) ⟨hK, hE⟩ rfl ?_
              refine h_n 15 rfl rfl (by kernel_rfl) (fun _ _ _ h => h) ⟨hK, hE⟩ rfl ?_
              refine h_n 16 rfl rfl (by kernel_rfl) (fun _ _ _ h => h) ⟨hK, hE⟩ rfl ?_
              refine h_n 17 rfl rfl (by kernel_rfl) (fun _ _ _ h => h) ⟨hK, hE⟩ rfl ?_
              refine h_n 18 rfl rfl (by kernel_rfl) (fun _ _ _ h => h) ⟨hK, hE⟩ rfl ?_
              refine h_t 19 rfl rfl (by kernel_rfl) (fun _ _ _ h => h) ⟨hK, hE⟩ rfl (fun W hW => r_pick rfl rfl) ?_
              refine h_t 20 rfl rfl (by kernel_rfl) (fun _ _ _ h => h) ⟨hK, hE⟩ rfl (fun W hW => r_assign rfl) ?_
              refine h_done (by kernel_rfl) ?_
              refine ⟨by repeat (first | exact Agree.over _ _ _ | exact Agree.refl _ _ | (refine Agree.puto ?_ _ _ rfl) | (refine Agree.put ?_ _ _ rfl) | (refine Agree.sub ?_ rfl)), ?_⟩
              exact ⟨congrArg Value.bool (by simp only [hr86, Bool.true_and, Bool.and_true, Bool.false_and, Bool.and_false, Bool.true_or, Bool.or_true, Bool.false_or, Bool.or_false, Bool.not_true, Bool.not_false, cond_true, cond_false]), hL, hE⟩
            · have hr86 := hb
              replace hb := of_decide_eq_false hb
              refine h_t 6 rfl rfl (by kernel_rfl) (fun _ _ _ h => h) ⟨hK, hE⟩ rfl (fun W hW => r_fieldAddr (n := 0) rfl Tryz.underlying43 rfl Tryz.sizeOf26 rfl) ?_
              refine h_t 7 rfl rfl (by kernel_rfl) (fun _ _ _ h => h) ⟨hK, hE⟩ rfl (fun W hW => r_load_blk rfl Tryz.isAgg26 rfl (hW.1.get 1 rfl) rfl) ?_
              refine h_t 8 rfl rfl (by kernel_rfl) (fun _ _ _ h => h) ⟨hK, hE⟩ rfl (fun W hW => r_indexAddr_sl rfl Tryz.underlying26 Tryz.sizeOf3 rfl hw.is rfl (by decide) (by omega)) ?_
              refine h_t 9 rfl rfl (by kernel_rfl) (fun _ _ _ h => h) ⟨hK, hE⟩ rfl (fun W hW => r_load (v := .int .i64 (iat f.why 0)) rfl Tryz.isAgg3 rfl ((hw.keep RInt.kept (Ext0.cells hW.2)).int 0 (by decide) (by omega))) ?_
              refine h_t 10 rfl rfl (by kernel_rfl) (fun _ _ _ h => h) ⟨hK, hE⟩ rfl (fun W hW => r_load_blk rfl Tryz.isAgg71 rfl (hW.1.get 2 rfl) rfl) ?_
              refine h_t 11 rfl rfl (by kernel_rfl) (fun _ _ _ h => h) ⟨hK, hE⟩ rfl (fun W hW => r_nilCheck rfl rfl) ?_
              refine h_t 12 rfl rfl (by kernel_rfl) (fun _ _ _ h => h) ⟨hK, hE⟩ rfl (fun W hW => r_fieldAddr (n := 0) rfl Tryz.underlying51 rfl Tryz.sizeOf22 rfl) ?_
              refine h_t 13 rfl rfl (by kernel_rfl) (fun _ _ _ h => h) ⟨hK, hE⟩ rfl (fun W hW => r_load rfl Tryz.isAgg22 rfl (Ext0.cells hW.2 _ _ hx0)) ?_
              refine h_t 14 rfl rfl (by kernel_rfl) (fun _ _ _ h => h) ⟨hK, hE⟩ rfl (fun W hW => r_fieldAddr (n := 0) rfl Tryz.underlying43 rfl Tryz.sizeOf3 rfl) ?_
              refine h_t 15 rfl rfl (by kernel_rfl) (fun _ _ _ h => h) ⟨hK, hE⟩ rfl (fun W hW => r_load_blk rfl Tryz.isAgg3 rfl (hW.1.get 1 rfl) rfl) ?_
              refine h_by 16 rfl rfl (by kernel_rfl) rfl (r_call rfl rfl Tryz.func43 rfl rfl) (Members_calls _ Ag cg g (hg.keep RNode.kept (Ext0.cells hE)) hok.fits f.b) ?_
              rintro _ w ⟨v, rfl, hrow, hX⟩
              replace hL := hL.ext0 hX
              replace hE := hE.trans hX
              obtain ⟨A2, c2, rfl, hmem, _⟩ := Sl.ofInts hrow
              have hK := hL
              refine ⟨_, rfl, ⟨hK, hE⟩, ?_⟩
              refine h_t 17 rfl rfl (by kernel_rfl) (fun _ _ _ h => h) ⟨hK, hE⟩ rfl (fun W hW => r_len rfl Tryz.underlying26 rfl) ?_
              refine h_t 18 rfl rfl (by kernel_rfl) (fun _ _ _ h => h) ⟨hK, hE⟩ rfl (fun W hW => r_geq rfl rfl rfl) ?_
              refine h_t 19 rfl rfl (by kernel_rfl) (fun _ _ _ h => h) ⟨hK, hE⟩ rfl (fun W hW => r_pick rfl rfl) ?_
              refine h_t 20 rfl rfl (by kernel_rfl) (fun _ _ _ h => h) ⟨hK, hE⟩ rfl (fun W hW => r_assign rfl) ?_
              refine h_done (by kernel_rfl) ?_
              refine ⟨by repeat (first | exact Agree.over _ _ _ | exact Agree.refl _ _ | (refine Agree.puto ?_ _ _ rfl) | (refine Agree.put ?_ _ _ rfl) | (refine Agree.sub ?_ rfl)), ?_⟩
              exact ⟨congrArg Value.bool (by simp only [hr86, Bool.true_and, Bool.and_true, Bool.false_and, Bool.and_false, Bool.true_or, Bool.or_true, Bool.false_or, Bool.or_false, Bool.not_true, Bool.not_false, cond_true, cond_false]), hL, hE⟩
          rintro e w hI
          obtain ⟨hm80, hL, hE⟩ := hI
          refine c_know hm80 ?_
          refine c_cond rfl (fun hb => ?_) (fun hb => ?_)
          · have hr80 := hb
            have hno := formed_none (nl := nl) (show manyF g f = none by unfold manyF; rw [if_neg h8, if_neg hne, if_neg h9, if_pos (by simpa using hb)])
            refine c_seq ?_
         
            refine c_ops ?_
            refine l_val rfl rfl rfl (r_assign rfl) ?_
            refine l_nil ?_
            refine c_ret ?_
            exact ⟨ret_bool rfl hno.symm, hE⟩
          · have hr80 := hb
            have hi : 0 ≤ iat f.why 0 ∧ iat f.why 0 < (membersG g f.b).length := by
              have h := hb
              simp at h
              omega
            have hni : ¬ (iat f.why 0 < 0 ∨ ((membersG g f.b).length : Int) ≤ iat f.why 0) := by omega
            have hch := chosen_in hok hi
            obtain ⟨t, ht⟩ : ∃ t, t = chosenF g f := ⟨_, rfl⟩
            refine c_seq ?_
         
            refine c_ops ?_
            refine l_val rfl rfl rfl (r_load_blk rfl Tryz.isAgg71 rfl (hL.get 2 rfl) rfl) ?_
            refine l_val rfl rfl rfl (r_load_blk_agg rfl Tryz.isAgg43 Tryz.sizeOf43 rfl (hL.get 1 rfl) rfl) ?_
            have hf : FactOk g f := ⟨hra, hrb, fun _ => by intro h0; rw [h0] at hne; exact hne rfl, fun _ _ => hi⟩
            obtain ⟨Bk, dk, Bl, dl, hcell2, htk, htl⟩ := hg.node _ hch.1 hch.2.1
            refine l_by rfl rfl rfl (r_call rfl rfl Tryz.func85 rfl rfl) (chosen_calls _ xb Ag cg g (hg.keep RNode.kept (Ext0.cells hE)) hok (Ext0.cells hE _ _ hx0) f Aw cw (hw.keep RInt.kept (Ext0.cells hE)) hf hi (by omega) Bk dk Bl dl (fun j v hj => Ext0.cells hE _ _ (hcell2 j v hj))) ?_
            rintro _ w ⟨rfl, hX⟩
            replace hL := hL.ext0 hX
            replace hE := hE.trans hX
            rw [← ht]
            refine ⟨_, rfl, ?_⟩
            refine l_new rfl rfl rfl (n_alloc rfl Tryz.zeroValue46 hL hE) ?_
            rintro _ w ⟨b7, rfl, hb7, hL, hE, hX⟩
            refine l_new_do rfl rfl (r_store 0 rfl Tryz.sizeOf46 rfl hL hE rfl rfl rfl rfl (fun h => absurd h (Nat.not_lt.2 hb7))) ?_
            rintro w ⟨hL, hE, hz, hk⟩
            refine l_nil ?_
            refine c_block ?_
            refine c_merge [32, 33, 34, 35, 36, 37, 38, 39, 40] (fun e w => e 32 = .bool (decide (a.kind = 7) && decide (t.kind = 7)) ∧ Has w [.blk b7 (.cells (nodeCells t Bk dk Bl dl).toArray 46 (0, 0)), .blk b5 (.cells (nodeCells a Ak ck Al cl).toArray 46 (0, 0)), .blk b3 (.cells (factCells f Aw cw).toArray 43 (0, 0)), .blk b2 (.cells #[.pointer (some ⟨xb, 0, none⟩)] 71 (0, 0))] ∧ Ext0 w0 w) ?_ ?_
            · skip
           
              refine c_ops ?_
              refine l_val rfl rfl rfl (r_fieldAddr (n := 0) rfl Tryz.underlying46 rfl Tryz.sizeOf3 rfl) ?_
              refine l_val rfl rfl rfl (r_load_blk rfl Tryz.isAgg3 rfl (hL.get 1 rfl) rfl) ?_
              refine l_val rfl rfl rfl (r_eql rfl rfl rfl) ?_
              refine l_val rfl rfl rfl (r_move rfl) ?_
              refine l_case 36 rfl (fun hb => ?_) (fun hb => ?_)
              · have hr36 := hb
                replace hb := of_decide_eq_true hb
                refine l_val rfl rfl rfl (r_fieldAddr (n := 0) rfl Tryz.underlying46 rfl Tryz.sizeOf3 rfl) ?_
                refine l_val rfl rfl rfl (r_load_blk rfl Tryz.isAgg3 rfl (hL.get 0 rfl) rfl) ?_
                refine l_val rfl rfl rfl (r_eql rfl rfl rfl) ?_
                refine l_val rfl rfl rfl (r_pick rfl rfl) ?_
                refine l_val rfl rfl rfl (r_assign rfl) ?_
                refine l_nil ?_
                refine ⟨by repeat (first | exact Agree.over _ _ _ | exact Agree.refl _ _ | (refine Agree.puto ?_ _ _ rfl) | (refine Agree.put ?_ _ _ rfl) | (refine Agree.sub ?_ rfl)), ?_⟩
                exact ⟨congrArg Value.bool (by simp only [hr36, Bool.true_and, Bool.and_true, Bool.false_and, Bool.and_false, Bool.true_or, Bool.or_true, Bool.false_or, Bool.or_false, Bool.not_true, Bool.not_false, cond_true, cond_false]), hL, hE⟩
              · have hr36 := hb
                replace hb := of_decide_eq_false hb
                refine l_not rfl rfl rfl ?_
                refine l_not rfl rfl rfl ?_
                refine l_not rfl rfl rfl ?_
                refine l_val rfl rfl rfl (r_pick rfl rfl) ?_
                refine l_val rfl rfl rfl (r_assign rfl) ?_
                refine l_nil ?_
                refine ⟨by repeat (first | exact Agree.over _ _ _ | exact Agree.refl _ _ | (refine Agree.puto ?_ _ _ rfl) | (refine Agree.put ?_ _ _ rfl) | (refine Agree.sub ?_ rfl)), ?_⟩
                exact ⟨congrArg Value.bool (by simp only [hr36, Bool.true_and, Bool.and_true, Bool.false_and, Bool.and_false, Bool.true_or, Bool.or_true, Bool.false_or, Bool.or_false, Bool.not_true, Bool.not_false, cond_true, cond_false]), hL, hE⟩
            rintro e w hI
            obtain ⟨hm32, hL, hE⟩ := hI
            refine c_know hm32 ?_
            refine c_cond rfl (fun hb => ?_) (fun hb => ?_)
            · have hr32 := hb
              have h7 : (gat g f.a).kind = 7 ∧ (chosenF g f).kind = 7 := by rw [← ha, ← ht]; simpa using hb
              have hform := formed_some (nl := nl) hpp.1 hpp.2 (show manyF g f = some (1 + t.keys.length : Int) by unfold manyF; rw [if_neg h8, if_neg hne, if_neg h9, if_neg hni, if_pos h7, ht])
              have hkm : t.keys.length ≤ 1000000000000 := by
                have h1 := hok.fits.lists _ (gat_mem' hch.1 hch.2.1)
                have h2 := fun h => ((hok.is (gat_mem' hch.1 hch.2.1)).keys (k := 0) h).1
                rw [ht]
                show (gat g (iat (membersG g f.b) (iat f.why 0))).keys.length ≤ _
                omega
           
              refine c_ops ?_
              refine l_val rfl rfl rfl (r_move rfl) ?_
              refine l_val rfl rfl rfl (r_fieldAddr (n := 0) rfl Tryz.underlying46 rfl Tryz.sizeOf44 rfl) ?_
              refine l_val rfl rfl rfl (r_load_blk rfl Tryz.isAgg44 rfl (hL.get 0 rfl) rfl) ?_
              refine l_val rfl rfl rfl (r_len rfl Tryz.underlying44 rfl) ?_
              refine l_val rfl rfl rfl ((r_add rfl rfl rfl).trans (by rw [wrap_small (by omega) (by omega)])) ?_
              refine l_val rfl rfl rfl (r_assign rfl) ?_
              refine l_nil ?_
              refine c_seq ?_
           
              refine c_ops ?_
              refine l_val rfl rfl rfl (r_makeFunc rfl) ?_
              refine l_val rfl rfl rfl (r_assign rfl) ?_
              refine l_nil ?_
              refine c_seq ?_
           
              refine c_ops ?_
              refine l_val rfl rfl rfl (r_fieldAddr (n := 0) rfl Tryz.underlying43 rfl Tryz.sizeOf26 rfl) ?_
              refine l_val rfl rfl rfl (r_load_blk rfl Tryz.isAgg26 rfl (hL.get 2 rfl) rfl) ?_
              refine l_val rfl rfl rfl (r_len rfl Tryz.underlying26 rfl) ?_
              refine l_val rfl rfl rfl (r_move rfl) ?_
              refine l_val rfl rfl rfl (r_eql rfl rfl rfl) ?_
              refine l_val rfl rfl rfl (r_move rfl) ?_
              refine l_case 107 rfl (fun hb => ?_) (fun hb => ?_)
              · have hr107 := hb
                replace hb := of_decide_eq_true hb
                refine l_val rfl rfl rfl (r_load_blk rfl Tryz.isAgg71 rfl (hL.get 3 rfl) rfl) ?_
                refine l_val rfl rfl rfl (r_load_blk_agg rfl Tryz.isAgg43 Tryz.sizeOf43 rfl (hL.get 2 rfl) rfl) ?_
                refine l_by rfl rfl rfl (r_call rfl rfl Tryz.func44 rfl rfl) (on_calls _ xb Ag cg g (hg.keep RNode.kept (Ext0.cells hE)) hok (Ext0.cells hE _ _ hx0) f Aw cw (hw.keep RInt.kept (Ext0.cells hE)) hf) ?_
                rintro _ w ⟨Ao, co, rfl, hon, hX⟩
                replace hL := hL.ext0 hX
                replace hE := hE.trans hX
                refine ⟨_, rfl, ?_⟩
                refine l_val rfl rfl rfl (r_move rfl) ?_
                have hT : Tests Tryz.prog (fun (_ : Unit) W => Has W [.blk b2 (.cells #[.pointer (some ⟨xb, 0, none⟩)] 71 (0, 0))] ∧ Ext0 w0 W) (fun _ => False) (D1 RInt) (fun _ k => (outB nl k, ())) (.func (.func 86) #[] #[.pointer (some ⟨b2, 0, none⟩)]) := ⟨_, _, _, _, _, rfl, Tryz.func86, rfl, rfl, fun _ k v W hs hv => (by
                  obtain rfl : v = .int .i64 k := by injection hv
                  exact (formed1f_calls W b2 xb Af nl cf (Ext0.cells hs.2 _ _ hx1) _ k hs.1).mono (fun en w' ⟨h1, h2⟩ => ⟨h1, h2, hs.1.ext0 h2, hs.2.trans h2⟩))⟩
                refine l_by rfl rfl rfl (r_call rfl rfl Tryz.func42 rfl rfl) (ContainsFunc_int (fun (_ : Unit) W => Has W [.blk b2 (.cells #[.pointer (some ⟨xb, 0, none⟩)] 71 (0, 0))] ∧ Ext0 w0 W) (fun _ => False) RInt (fun _ k => (outB nl k, ())) _ _ _ _ (onF g f) _ () (fun W hW => hon W (hw.keep RInt.kept (Ext0.cells (hE.trans hW)))) hT ⟨(Has.right (L1 := [_, _, _]) hL), hE⟩) ?_
                rintro _ w ⟨rfl, hX, hY⟩
                replace hE := hE.step0 hX
                rw [findS_pure]
                refine ⟨_, rfl, ?_⟩
                refine l_val rfl rfl rfl (r_not rfl rfl) ?_
                refine l_val rfl rfl rfl (r_pick rfl rfl) ?_
                refine l_val rfl rfl rfl (r_assign rfl) ?_
                refine l_nil ?_
                refine c_ret ?_
                exact ⟨ret_bool rfl (by rw [hform]; simp only [hr107, Bool.true_and, Bool.and_true, Bool.false_and, Bool.and_false, Bool.true_or, Bool.or_true, Bool.false_or, Bool.or_false, Bool.not_true, Bool.not_false, cond_true, cond_false]), hE⟩
              · have hr107 := hb
                replace hb := of_decide_eq_false hb
                refine l_not rfl rfl rfl ?_
                refine l_not rfl rfl rfl ?_
                refine l_not rfl rfl rfl ?_
                refine l_not rfl rfl rfl ?_
                refine l_not rfl rfl rfl ?_
                refine l_not rfl rfl rfl ?_
                refine l_val rfl rfl rfl (r_pick rfl rfl) ?_
                refine l_val rfl rfl rfl (r_assign rfl) ?_
                refine l_nil ?_
                refine c_ret ?_
                exact ⟨ret_bool rfl (by rw [hform]; simp only [hr107, Bool.true_and, Bool.and_true, Bool.false_and, Bool.and_false, Bool.true_or, Bool.or_true, Bool.false_or, Bool.or_false, Bool.not_true, Bool.not_false, cond_true, cond_false]), hE⟩
            · have hr32 := hb
              have h7 : ¬ ((gat g f.a).kind = 7 ∧ (chosenF g f).kind = 7) := by rw [← ha, ← ht]; simpa using hb
              refine c_merge [46, 47, 48, 49, 50, 51, 52, 53, 54] (fun e w => e 46 = .bool (decide (a.kind = 9) && decide (t.kind = 9)) ∧ Has w [.blk b7 (.cells (nodeCells t Bk dk Bl dl).toArray 46 (0, 0)), .blk b5 (.cells (nodeCells a Ak ck Al cl).toArray 46 (0, 0)), .blk b3 (.cells (factCells f Aw cw).toArray 43 (0, 0)), .blk b2 (.cells #[.pointer (some ⟨xb, 0, none⟩)] 71 (0, 0))] ∧ Ext0 w0 w) ?_ ?_
              · skip
             
                refine c_ops ?_
                refine l_val rfl rfl rfl (r_fieldAddr (n := 0) rfl Tryz.underlying46 rfl Tryz.sizeOf3 rfl) ?_
                refine l_val rfl rfl rfl (r_load_blk rfl Tryz.isAgg3 rfl (hL.get 1 rfl) rfl) ?_
                refine l_val rfl rfl rfl (r_eql rfl rfl rfl) ?_
                refine l_val rfl rfl rfl (r_move rfl) ?_
                refine l_case 50 rfl (fun hb => ?_) (fun hb => ?_)
                · have hr50 := hb
                  replace hb := of_decide_eq_true hb
                  refine l_val rfl rfl rfl (r_fieldAddr (n := 0) rfl Tryz.underlying46 rfl Tryz.sizeOf3 rfl) ?_
                  refine l_val rfl rfl rfl (r_load_blk rfl Tryz.isAgg3 rfl (hL.get 0 rfl) rfl) ?_
                  refine l_val rfl rfl rfl (r_eql rfl rfl rfl) ?_
                  refine l_val rfl rfl rfl (r_pick rfl rfl) ?_
                  refine l_val rfl rfl rfl (r_assign rfl) ?_
                  refine l_nil ?_
                  refine ⟨by repeat (first | exact Agree.over _ _ _ | exact Agree.refl _ _ | (refine Agree.puto ?_ _ _ rfl) | (refine Agree.put ?_ _ _ rfl) | (refine Agree.sub ?_ rfl)), ?_⟩
                  exact ⟨congrArg Value.bool (by simp only [hr50, Bool.true_and, Bool.and_true, Bool.false_and, Bool.and_false, Bool.true_or, Bool.or_true, Bool.false_or, Bool.or_false, Bool.not_true, Bool.not_false, cond_true, cond_false]), hL, hE⟩
                · have hr50 := hb
                  replace hb := of_decide_eq_false hb
                  refine l_not rfl rfl rfl ?_
                  refine l_not rfl rfl rfl ?_
                  refine l_not rfl rfl rfl ?_
                  refine l_val rfl rfl rfl (r_pick rfl rfl) ?_
                  refine l_val rfl rfl rfl (r_assign rfl) ?_
                  refine l_nil ?_
                  refine ⟨by repeat (first | exact Agree.over _ _ _ | exact Agree.refl _ _ | (refine Agree.puto ?_ _ _ rfl) | (refine Agree.put ?_ _ _ rfl) | (refine Agree.sub ?_ rfl)), ?_⟩
                  exact ⟨congrArg Value.bool (by simp only [hr50, Bool.true_and, Bool.and_true, Bool.false_and, Bool.and_false, Bool.true_or, Bool.or_true, Bool.false_or, Bool.or_false, Bool.not_true, Bool.not_false, cond_true, cond_false]), hL, hE⟩
              rintro e w hI
              obtain ⟨hm46, hL, hE⟩ := hI
              refine c_know hm46 ?_
              refine c_cond rfl (fun hb => ?_) (fun hb => ?_)
              · have hr46 := hb
                have h99 : (gat g f.a).kind = 9 ∧ (chosenF g f).kind = 9 := by rw [← ha, ← ht]; simpa using hb
                have hform := formed_some (nl := nl) hpp.1 hpp.2 (show manyF g f = some (1 + 1 : Int) by unfold manyF; rw [if_neg h8, if_neg hne, if_neg h9, if_neg hni, if_neg h7, if_pos h99]; rfl)
             
                refine c_ops ?_
                refine l_val rfl rfl rfl (r_move rfl) ?_
                refine l_val rfl rfl rfl ((r_add rfl rfl rfl).trans (by rw [wrap_small (by decide) (by decide)])) ?_
                refine l_val rfl rfl rfl (r_assign rfl) ?_
                refine l_nil ?_
                refine c_seq ?_
             
                refine c_ops ?_
                refine l_val rfl rfl rfl (r_makeFunc rfl) ?_
                refine l_val rfl rfl rfl (r_assign rfl) ?_
                refine l_nil ?_
                refine c_seq ?_
             
                refine c_ops ?_
                refine l_val rfl rfl rfl (r_fieldAddr (n := 0) rfl Tryz.underlying43 rfl Tryz.sizeOf26 rfl) ?_
                refine l_val rfl rfl rfl (r_load_blk rfl Tryz.isAgg26 rfl (hL.get 2 rfl) rfl) ?_
                refine l_val rfl rfl rfl (r_len rfl Tryz.underlying26 rfl) ?_
                refine l_val rfl rfl rfl (r_move rfl) ?_
                refine l_val rfl rfl rfl (r_eql rfl rfl rfl) ?_
                refine l_val rfl rfl rfl (r_move rfl) ?_
                refine l_case 107 rfl (fun hb => ?_) (fun hb => ?_)
                · have hr107 := hb
                  replace hb := of_decide_eq_true hb
                  refine l_val rfl rfl rfl (r_load_blk rfl Tryz.isAgg71 rfl (hL.get 3 rfl) rfl) ?_
                  refine l_val rfl rfl rfl (r_load_blk_agg rfl Tryz.isAgg43 Tryz.sizeOf43 rfl (hL.get 2 rfl) rfl) ?_
                  refine l_by rfl rfl rfl (r_call rfl rfl Tryz.func44 rfl rfl) (on_calls _ xb Ag cg g (hg.keep RNode.kept (Ext0.cells hE)) hok (Ext0.cells hE _ _ hx0) f Aw cw (hw.keep RInt.kept (Ext0.cells hE)) hf) ?_
                  rintro _ w ⟨Ao, co, rfl, hon, hX⟩
                  replace hL := hL.ext0 hX
                  replace hE := hE.trans hX
                  refine ⟨_, rfl, ?_⟩
                  refine l_val rfl rfl rfl (r_move rfl) ?_
                  have hT : Tests Tryz.prog (fun (_ : Unit) W => Has W [.blk b2 (.cells #[.pointer (some ⟨xb, 0, none⟩)] 71 (0, 0))] ∧ Ext0 w0 W) (fun _ => False) (D1 RInt) (fun _ k => (outB nl k, ())) (.func (.func 86) #[] #[.pointer (some ⟨b2, 0, none⟩)]) := ⟨_, _, _, _, _, rfl, Tryz.func86, rfl, rfl, fun _ k v W hs hv => (by
                    obtain rfl : v = .int .i64 k := by injection hv
                    exact (formed1f_calls W b2 xb Af nl cf (Ext0.cells hs.2 _ _ hx1) _ k hs.1).mono (fun en w' ⟨h1, h2⟩ => ⟨h1, h2, hs.1.ext0 h2, hs.2.trans h2⟩))⟩
                  refine l_by rfl rfl rfl (r_call rfl rfl Tryz.func42 rfl rfl) (ContainsFunc_int (fun (_ : Unit) W => Has W [.blk b2 (.cells #[.pointer (some ⟨xb, 0, none⟩)] 71 (0, 0))] ∧ Ext0 w0 W) (fun _ => False) RInt (fun _ k => (outB nl k, ())) _ _ _ _ (onF g f) _ () (fun W hW => hon W (hw.keep RInt.kept (Ext0.cells (hE.trans hW)))) hT ⟨(Has.right (L1 := [_, _, _]) hL), hE⟩) ?_
                  rintro _ w ⟨rfl, hX, hY⟩
                  replace hE := hE.step0 hX
                  rw [findS_pure]
                  refine ⟨_, rfl, ?_⟩
                  refine l_val rfl rfl rfl (r_not rfl rfl) ?_
                  refine l_val rfl rfl rfl (r_pick rfl rfl) ?_
                  refine l_val rfl rfl rfl (r_assign rfl) ?_
                  refine l_nil ?_
                  refine c_ret ?_
                  exact ⟨ret_bool rfl (by rw [hform]; simp only [hr107, Bool.true_and, Bool.and_true, Bool.false_and, Bool.and_false, Bool.true_or, Bool.or_true, Bool.false_or, Bool.or_false, Bool.not_true, Bool.not_false, cond_true, cond_false]), hE⟩
                · have hr107 := hb
                  replace hb := of_decide_eq_false hb
                  refine l_not rfl rfl rfl ?_
                  refine l_not rfl rfl rfl ?_
                  refine l_not rfl rfl rfl ?_
                  refine l_not rfl rfl rfl ?_
                  refine l_not rfl rfl rfl ?_
                  refine l_not rfl rfl rfl ?_
                  refine l_val rfl rfl rfl (r_pick rfl rfl) ?_
                  refine l_val rfl rfl rfl (r_assign rfl) ?_
                  refine l_nil ?_
                  refine c_ret ?_
                  exact ⟨ret_bool rfl (by rw [hform]; simp only [hr107, Bool.true_and, Bool.and_true, Bool.false_and, Bool.and_false, Bool.true_or, Bool.or_true, Bool.false_or, Bool.or_false, Bool.not_true, Bool.not_false, cond_true, cond_false]), hE⟩
              · have hr46 := hb
                have h99 : ¬ ((gat g f.a).kind = 9 ∧ (chosenF g f).kind = 9) := by rw [← ha, ← ht]; simpa using hb
                have hform := formed_some (nl := nl) hpp.1 hpp.2 (show manyF g f = some 1 by unfold manyF; rw [if_neg h8, if_neg hne, if_neg h9, if_neg hni, if_neg h7, if_neg h99])
                refine c_skip ?_
                refine c_seq ?_
             
                refine c_ops ?_
                refine l_val rfl rfl rfl (r_makeFunc rfl) ?_
                refine l_val rfl rfl rfl (r_assign rfl) ?_
                refine l_nil ?_
                refine c_seq ?_
             
                refine c_ops ?_
                refine l_val rfl rfl rfl (r_fieldAddr (n := 0) rfl Tryz.underlying43 rfl Tryz.sizeOf26 rfl) ?_
                refine l_val rfl rfl rfl (r_load_blk rfl Tryz.isAgg26 rfl (hL.get 2 rfl) rfl) ?_
                refine l_val rfl rfl rfl (r_len rfl Tryz.underlying26 rfl) ?_
                refine l_val rfl rfl rfl (r_move rfl) ?_
                refine l_val rfl rfl rfl (r_eql rfl rfl rfl) ?_
                refine l_val rfl rfl rfl (r_move rfl) ?_
                refine l_case 107 rfl (fun hb => ?_) (fun hb => ?_)
                · have hr107 := hb
                  replace hb := of_decide_eq_true hb
                  refine l_val rfl rfl rfl (r_load_blk rfl Tryz.isAgg71 rfl (hL.get 3 rfl) rfl) ?_
                  refine l_val rfl rfl rfl (r_load_blk_agg rfl Tryz.isAgg43 Tryz.sizeOf43 rfl (hL.get 2 rfl) rfl) ?_
                  refine l_by rfl rfl rfl (r_call rfl rfl Tryz.func44 rfl rfl) (on_calls _ xb Ag cg g (hg.keep RNode.kept (Ext0.cells hE)) hok (Ext0.cells hE _ _ hx0) f Aw cw (hw.keep RInt.kept (Ext0.cells hE)) hf) ?_
                  rintro _ w ⟨Ao, co, rfl, hon, hX⟩
                  replace hL := hL.ext0 hX
                  replace hE := hE.trans hX
                  refine ⟨_, rfl, ?_⟩
                  refine l_val rfl rfl rfl (r_move rfl) ?_
                  have hT : Tests Tryz.prog (fun (_ : Unit) W => Has W [.blk b2 (.cells #[.pointer (some ⟨xb, 0, none⟩)] 71 (0, 0))] ∧ Ext0 w0 W) (fun _ => False) (D1 RInt) (fun _ k => (outB nl k, ())) (.func (.func 86) #[] #[.pointer (some ⟨b2, 0, none⟩)]) := ⟨_, _, _, _, _, rfl, Tryz.func86, rfl, rfl, fun _ k v W hs hv => (by
                    obtain rfl : v = .int .i64 k := by injection hv
                    exact (formed1f_calls W b2 xb Af nl cf (Ext0.cells hs.2 _ _ hx1) _ k hs.1).mono (fun en w' ⟨h1, h2⟩ => ⟨h1, h2, hs.1.ext0 h2, hs.2.trans h2⟩))⟩
                  refine l_by rfl rfl rfl (r_call rfl rfl Tryz.func42 rfl rfl) (ContainsFunc_int (fun (_ : Unit) W => Has W [.blk b2 (.cells #[.pointer (some ⟨xb, 0, none⟩)] 71 (0, 0))] ∧ Ext0 w0 W) (fun _ => False) RInt (fun _ k => (outB nl k, ())) _ _ _ _ (onF g f) _ () (fun W hW => hon W (hw.keep RInt.kept (Ext0.cells (hE.trans hW)))) hT ⟨(Has.right (L1 := [_, _, _]) hL), hE⟩) ?_
                  rintro _ w ⟨rfl, hX, hY⟩
                  replace hE := hE.step0 hX
                  rw [findS_pure]
                  refine ⟨_, rfl, ?_⟩
                  refine l_val rfl rfl rfl (r_not rfl rfl) ?_
                  refine l_val rfl rfl rfl (r_pick rfl rfl) ?_
                  refine l_val rfl rfl rfl (r_assign rfl) ?_
                  refine l_nil ?_
                  refine c_ret ?_
                  exact ⟨ret_bool rfl (by rw [hform]; simp only [hr107, Bool.true_and, Bool.and_true, Bool.false_and, Bool.and_false, Bool.true_or, Bool.or_true, Bool.false_or, Bool.or_false, Bool.not_true, Bool.not_false, cond_true, cond_false]), hE⟩
                · have hr107 := hb
                  replace hb := of_decide_eq_false hb
                  refine l_not rfl rfl rfl ?_
                  refine l_not rfl rfl rfl ?_
                  refine l_not rfl rfl rfl ?_
                  refine l_not rfl rfl rfl ?_
                  refine l_not rfl rfl rfl ?_
                  refine l_not rfl rfl rfl ?_
                  refine l_val rfl rfl rfl (r_pick rfl rfl) ?_
                  refine l_val rfl rfl rfl (r_assign rfl) ?_
                  refine l_nil ?_
                  refine c_ret ?_
                  exact ⟨ret_bool rfl (by rw [hform]; simp only [hr107, Bool.true_and, Bool.and_true, Bool.false_and, Bool.and_false, Bool.true_or, Bool.or_true, Bool.false_or, Bool.or_false, Bool.not_true, Bool.not_false, cond_true, cond_false]), hE⟩
end Go.Proofs.YtndophlnapjkhaaGreatDoor.Vc
namespace Go.Proofs.YtndophlnapjkhaaGreatDoor.Vc
open Go Go.RowKit
set_option linter.unusedVariables false
set_option linter.unusedSimpArgs false
theorem check1_calls (w0 : World) (xb : Nat) (Ag : Option Addr) (cg : Nat) (g : List GNode) (hg : Nodes w0 Ag cg g) (hok : GraphOk g) (hx0 : w0.cell? ⟨xb, 0, none⟩ = some (.slice Ag g.length cg)) (Af : Option Addr) (cf : Nat) (l : List Fact) (hl : FactsAt w0 Af cf l) (hx1 : w0.cell? ⟨xb, 1, none⟩ = some (.slice Af l.length cf)) (f : Fact) (Aw : Option Addr) (cw : Nat) (hw : Ints w0 Aw cw f.why) (xp : Nat) (t : TypeId) (hL : Has w0 [.blk xp (.cells #[.pointer (some ⟨xb, 0, none⟩)] t (0, 0))]) :
    Calls Tryz.prog 60 [.agg (factCells f Aw cw).toArray, .pointer (some ⟨xp, 0, none⟩)].toArray w0 fun en w' => en = .returned (.bool (!formedF g l.length f)) ∧ Ext0 w0 w' := by
  have hE : Ext0 w0 w0 := Ext.refl _ _
  refine calls [3] Tryz.func60 rfl rfl rfl rfl ?_
  refine c_seq ?_
  refine c_ops ?_
  refine l_new rfl rfl rfl (n_box rfl hL hE) ?_
  rintro _ w ⟨b2, rfl, hb2, hL, hE, hX⟩
  refine l_val rfl rfl rfl (r_assign rfl) ?_
  refine l_nil ?_
  refine c_seq ?_
  refine c_ops ?_
  refine l_val rfl rfl rfl (r_load_blk rfl Tryz.isAgg71 rfl (hL.get 1 rfl) rfl) ?_
  refine l_val rfl rfl rfl (r_load_blk_agg rfl Tryz.isAgg43 Tryz.sizeOf43 rfl (hL.get 0 rfl) rfl) ?_
  refine l_by rfl rfl rfl (r_call rfl rfl Tryz.func61 rfl rfl) (fact_formed_calls _ xb Ag cg g (hg.keep RNode.kept (Ext0.cells hE)) hok (Ext0.cells hE _ _ hx0) Af l.length cf (Ext0.cells hE _ _ hx1) f Aw cw (hw.keep RInt.kept (Ext0.cells hE))) ?_
  rintro _ w ⟨rfl, hX⟩
  replace hL := hL.ext0 hX
  replace hE := hE.trans hX
  refine ⟨_, rfl, ?_⟩
  refine l_val rfl rfl rfl (r_not rfl rfl) ?_
  refine l_val rfl rfl rfl (r_assign rfl) ?_
  refine l_nil ?_
  refine c_ret ?_
  exact ⟨rfl, hE⟩
def checkF (g : List GNode) (l : List Fact) : Int := if checkG g = 0 then (if 8000 < (l.length : Int) then 5 else if l.any (fun f => !formedF g l.length f) then 2 else 0) else checkG g
theorem ok_of {g : List GNode} (hfit : Fits g) (h : checkG g = 0) : GraphOk g ∧ g.length ≤ 2000 := by
  unfold checkG at h
  split at h
  · cases h
  · rename_i hn
    split at h
    · rename_i ha
      exact ⟨⟨hfit, fun x hx => List.all_eq_true.1 ha x hx⟩, by omega⟩
    · cases h
theorem check_calls (w0 : World) (xb : Nat) (Ag : Option Addr) (cg : Nat) (g : List GNode) (hg : Nodes w0 Ag cg g) (hfit : Fits g) (hk0 : KeysLaid w0) (hx0 : w0.cell? ⟨xb, 0, none⟩ = some (.slice Ag g.length cg)) (Af : Option Addr) (cf : Nat) (l : List Fact) (hl : FactsAt w0 Af cf l) (hx1 : w0.cell? ⟨xb, 1, none⟩ = some (.slice Af l.length cf)) :
    Calls Tryz.prog 34 [.pointer (some ⟨xb, 0, none⟩)].toArray w0 fun en w' => en = .returned (.int .i64 (checkF g l)) ∧ Ext0 w0 w' := by
  have hE : Ext0 w0 w0 := Ext.refl _ _
  have hL : Has w0 [] := trivial
  unfold checkF
  refine calls [2] Tryz.func34 rfl rfl rfl rfl ?_
  refine c_seq ?_
  refine c_ops ?_
  refine l_new rfl rfl rfl (n_box rfl hL hE) ?_
  rintro _ w ⟨b1, rfl, hb1, hL, hE, hX⟩
  refine l_val rfl rfl rfl (r_assign rfl) ?_
  refine l_nil ?_
  refine c_seq ?_
  refine c_ops ?_
  refine l_val rfl rfl rfl (r_load_blk rfl Tryz.isAgg71 rfl (hL.get 0 rfl) rfl) ?_
  refine l_val rfl rfl rfl (r_nilCheck rfl rfl) ?_
  refine l_val rfl rfl rfl (r_fieldAddr (n := 0) rfl Tryz.underlying51 rfl Tryz.sizeOf22 rfl) ?_
  refine l_val rfl rfl rfl (r_load rfl Tryz.isAgg22 rfl (Ext0.cells hE _ _ hx0)) ?_
  refine l_by rfl rfl rfl (r_call rfl rfl Tryz.func26 rfl rfl) (Check_calls _ Ag cg g (hg.keep RNode.kept (Ext0.cells hE)) hfit (hk0.keep (Ext0.cells hE))) ?_
  rintro _ w ⟨rfl, hX⟩
  replace hL := hL.ext0 hX
  replace hE := hE.trans hX
  refine ⟨_, rfl, ?_⟩
  refine l_val rfl rfl rfl (r_assign rfl) ?_
  refine l_nil ?_
  refine c_seq ?_
  refine c_block ?_
  refine c_seq ?_
  refine c_ops ?_
  refine l_val rfl rfl rfl (r_move rfl) ?_
  refine l_val rfl rfl rfl (r_neq rfl rfl rfl) ?_
  refine l_val rfl rfl rfl (r_assign rfl) ?_
  refine l_nil ?_
  refine c_cond rfl (fun hb => ?_) (fun hb => ?_)
  · have hr9 := hb
    replace hb := of_decide_eq_false (by simpa using hb)
    refine c_seq ?_
 
    refine c_ops ?_
    refine l_val rfl rfl rfl (r_move rfl) ?_
    refine l_val rfl rfl rfl (r_assign rfl) ?_
    refine l_nil ?_
    refine c_ret ?_
    exact ⟨ret_int rfl (by rw [if_neg hb]), hE⟩
  · have hr9 := hb
    replace hb := of_decide_eq_true (by simpa using hb)
    obtain ⟨hok, hn⟩ := ok_of hfit hb
    refine c_seq ?_
 
    refine c_ops ?_
    refine l_val rfl rfl rfl (r_load_blk rfl Tryz.isAgg71 rfl (hL.get 0 rfl) rfl) ?_
    refine l_val rfl rfl rfl (r_nilCheck rfl rfl) ?_
    refine l_val rfl rfl rfl (r_fieldAddr (n := 0) rfl Tryz.underlying51 rfl Tryz.sizeOf25 rfl) ?_
    refine l_val rfl rfl rfl (r_load rfl Tryz.isAgg25 rfl (Ext0.cells hE _ _ hx1)) ?_
    refine l_val rfl rfl rfl (r_len rfl Tryz.underlying25 rfl) ?_
    refine l_val rfl rfl rfl (r_gtr rfl rfl rfl) ?_
    refine l_val rfl rfl rfl (r_assign rfl) ?_
    refine l_nil ?_
    refine c_cond rfl (fun hb => ?_) (fun hb => ?_)
    · have hr13 := hb
      replace hb := of_decide_eq_true hb
      refine c_seq ?_
   
      refine c_ops ?_
      refine l_val rfl rfl rfl (r_assign rfl) ?_
      refine l_nil ?_
      refine c_ret ?_
      exact ⟨ret_int rfl (by rename_i h1; rw [if_pos h1, if_pos hb]), hE⟩
    · have hr13 := hb
      replace hb := of_decide_eq_false hb
      refine c_seq ?_
   
      refine c_ops ?_
      refine l_val rfl rfl rfl (r_load_blk rfl Tryz.isAgg71 rfl (hL.get 0 rfl) rfl) ?_
      refine l_val rfl rfl rfl (r_nilCheck rfl rfl) ?_
      refine l_val rfl rfl rfl (r_fieldAddr (n := 0) rfl Tryz.underlying51 rfl Tryz.sizeOf25 rfl) ?_
      refine l_val rfl rfl rfl (r_load rfl Tryz.isAgg25 rfl (Ext0.cells hE _ _ hx1)) ?_
      refine l_val rfl rfl rfl (r_makeFunc rfl) ?_
      have hT : Tests Tryz.prog (fun (_ : Unit) W => Has W [.blk b1 (.cells #[.pointer (some ⟨xb, 0, none⟩)] 71 (0, 0))] ∧ Ext0 w0 W) (fun _ => False) (DN RFact 3) (fun _ f => (!formedF g l.length f, ())) (.func (.func 60) #[] #[.pointer (some ⟨b1, 0, none⟩)]) := ⟨_, _, _, _, _, rfl, Tryz.func60, rfl, rfl, fun _ f v W hs hv => (by
        obtain ⟨cs, _, ⟨Aw, cw, rfl, hw⟩, rfl⟩ := hv
        exact (check1_calls W xb Ag cg g (hg.keep RNode.kept (Ext0.cells hs.2)) hok (Ext0.cells hs.2 _ _ hx0) Af cf l (hl.keep RFact.kept (Ext0.cells hs.2)) (Ext0.cells hs.2 _ _ hx1) f Aw cw hw b1 _ hs.1).mono (fun en w' ⟨h1, h2⟩ => ⟨h1, h2, hs.1.ext0 h2, hs.2.trans h2⟩))⟩
      refine l_by rfl rfl rfl (r_call rfl rfl Tryz.func59 rfl rfl) (ContainsFunc_fact (fun (_ : Unit) W => Has W [.blk b1 (.cells #[.pointer (some ⟨xb, 0, none⟩)] 71 (0, 0))] ∧ Ext0 w0 W) (fun _ => False) RFact (fun _ f => (!formedF g l.length f, ())) _ _ _ _ l _ () (fun W hW => hl.keep RFact.kept (Ext0.cells (hE.trans hW))) hT ⟨hL, hE⟩) ?_
      rintro _ w ⟨rfl, hX, hY⟩
      replace hE := hE.step0 hX
      rw [findS_pure]
      refine ⟨_, rfl, ?_⟩
      refine l_val rfl rfl rfl (r_assign rfl) ?_
      refine l_nil ?_
      refine c_cond rfl (fun hb => ?_) (fun hb => ?_)
      · have hr20 := hb
        refine c_seq ?_
     
        refine c_ops ?_
        refine l_val rfl rfl rfl (r_assign rfl) ?_
        refine l_nil ?_
        refine c_ret ?_
        exact ⟨ret_int rfl (by rename_i h2 h1; rw [if_pos h2, if_neg h1, if_pos hb]), hE⟩
      · have hr20 := hb
        refine c_skip ?_
        refine c_seq ?_
     
        refine c_ops ?_
        refine l_val rfl rfl rfl (r_assign rfl) ?_
        refine l_nil ?_
        refine c_ret ?_
        exact ⟨ret_int rfl (by rename_i h2 h1; rw [if_pos h2, if_neg h1, if_neg (by rw [hb]; decide)]), hE⟩
end Go.Proofs.YtndophlnapjkhaaGreatDoor.Vc
namespace Go.Proofs.YtndophlnapjkhaaGreatDoor.Vc
open Go Go.RowKit
set_option linter.unusedVariables false
set_option linter.unusedSimpArgs false
theorem eq_fpair (a b c d : Int) (w : World) : (Op.equalIn 10000 59 (.agg #[.int .i64 a, .int .i64 b]) (.agg #[.int .i64 c, .int .i64 d])).run Tryz.prog w = .ok (decide (a = c) && decide (b = d)) w := by
  have u3 := Tryz.underlying3
  have a3 := Tryz.isAgg3
  have z3 := Tryz.sizeOf3
  have hS : Tryz.prog.underlying 59 = some (.struct (Tryz.prog.fieldsOf 59)) := by kernel_rfl
  have hp : Tryz.prog.stoodInHeld 59 = false := by kernel_rfl
  rw [show (10000 : Nat) = 9999 + 1 from rfl, run_equalIn_agg w 9999 59 _ _ hS hp]
  simp only [Program.fieldsOf, Tryz.underlying59]
  go_simp
  by_cases h1 : a = c <;> by_cases h2 : b = d <;> simp [h1, h2]
theorem r_neq_fpair {w : World} {ρ : Operand → Value} {o : Oper} {x y : Operand} {t' : TypeId} {p q : Int × Int} (h : o.op = .binOp .neq 59 x y t') (hx : ρ x = .agg (cells2 p).toArray) (hy : ρ y = .agg (cells2 q).toArray) : (execOp ρ o).run Tryz.prog w = .ok (.value (.bool (!decide (p = q)))) w := by
  have hm : Tryz.prog.eqGuardType Tryz.prog.depth 59 = false := by kernel_rfl
  have h1 := run_eqGuard_agg (P := Tryz.prog) w .neq 59 x y (cells2 p).toArray (cells2 q).toArray hm
  have h2 := run_neq_struct (P := Tryz.prog) w 59 (cells2 p).toArray (cells2 q).toArray
  have h3 := eq_fpair p.1 p.2 q.1 q.2 w
  have h4 : (decide (p.1 = q.1) && decide (p.2 = q.2)) = decide (p = q) := by
    rw [← Bool.decide_and]
    exact decide_eq_decide.2 Prod.ext_iff.symm
  rw [h4] at h3
  have h5 : (Op.equalIn 10000 59 (.agg (cells2 p).toArray) (.agg (cells2 q).toArray)).run Tryz.prog w = .ok (decide (p = q)) w := h3
  rw [h5] at h2
  simp only [execOp, h, hx, hy, Sem.run_bind, h1, Result.andThen_ok, h2]
  simp [h2]
def matchF (l : List Fact) : FP → List Int → Bool
  | p :: ps, k :: ks => decide (p = ((fat l k).a, (fat l k).b)) && matchF l ps ks
  | _, _ => true
def holdsF (g : List GNode) (l : List Fact) (f : Fact) : Bool := (byF g f).2 && decide (((byF g f).1.length : Int) = (onF g f).length) && matchF l (byF g f).1 (onF g f)
theorem matchF_step (l : List Fact) {ps : FP} {ks : List Int} {i : Nat} {p : Int × Int} {k : Int} (h1 : ps[i]? = some p) (h2 : ks[i]? = some k) : matchF l (ps.drop i) (ks.drop i) = (decide (p = ((fat l k).a, (fat l k).b)) && matchF l (ps.drop (i + 1)) (ks.drop (i + 1))) := by
  obtain ⟨hi1, e1⟩ := List.getElem?_eq_some_iff.1 h1
  obtain ⟨hi2, e2⟩ := List.getElem?_eq_some_iff.1 h2
  rw [List.drop_eq_getElem_cons hi1, List.drop_eq_getElem_cons hi2, e1, e2, matchF]
theorem fact_holds_calls (w0 : World) (xb : Nat) (Ag : Option Addr) (cg : Nat) (g : List GNode) (hg : Nodes w0 Ag cg g) (hok : GraphOk g) (hx0 : w0.cell? ⟨xb, 0, none⟩ = some (.slice Ag g.length cg)) (Af : Option Addr) (cf : Nat) (l : List Fact) (hl : FactsAt w0 Af cf l) (hx1 : w0.cell? ⟨xb, 1, none⟩ = some (.slice Af l.length cf)) (f : Fact) (Aw : Option Addr) (cw : Nat) (hw : Ints w0 Aw cw f.why) (hf : FactOk g f) (hin : ∀ k ∈ onF g f, 0 ≤ k ∧ k < l.length) :
    Calls Tryz.prog 37 [.pointer (some ⟨xb, 0, none⟩), .agg (factCells f Aw cw).toArray].toArray w0 fun en w' => en = .returned (.bool (holdsF g l f)) ∧ Ext0 w0 w' := by
  have hE : Ext0 w0 w0 := Ext.refl _ _
  have hL : Has w0 [] := trivial
  obtain ⟨on, hon⟩ : ∃ on, on = (byF g f).1 := ⟨_, rfl⟩
  obtain ⟨to, hto⟩ : ∃ to, to = onF g f := ⟨_, rfl⟩
  have hh : holdsF g l f = ((byF g f).2 && decide ((on.length : Int) = to.length) && matchF l on to) := by rw [hon, hto]; rfl
  rw [← hto] at hin
  refine calls [4] Tryz.func37 rfl rfl rfl rfl ?_
  refine c_seq ?_
  refine c_ops ?_
  refine l_new rfl rfl rfl (n_box rfl hL hE) ?_
  rintro _ w ⟨b3, rfl, hb3, hL, hE, hX⟩
  refine l_val rfl rfl rfl (r_assign rfl) ?_
  refine l_nil ?_
  refine c_seq ?_
  refine c_ops ?_
  refine l_val rfl rfl rfl (r_move rfl) ?_
  refine l_val rfl rfl rfl (r_load_blk_agg rfl Tryz.isAgg43 Tryz.sizeOf43 rfl (hL.get 0 rfl) rfl) ?_
  refine l_by rfl rfl rfl (r_call rfl rfl Tryz.func53 rfl rfl) (by_calls _ xb Ag cg g (hg.keep RNode.kept (Ext0.cells hE)) hok (Ext0.cells hE _ _ hx0) f Aw cw (hw.keep RInt.kept (Ext0.cells hE)) hf) ?_
  rintro _ w ⟨v, rfl, hrow, hX⟩
  rw [← hon] at hrow
  replace hL := hL.addRow hX hrow
  replace hE := hE.step0 hX
  obtain ⟨A5, c5, rfl⟩ := ownsRow_slice hrow
  obtain ⟨bm, hL⟩ : ∃ bm, Has w (.row bm _ _ _ _ _ :: _) := ⟨_, hL⟩
  refine ⟨_, rfl, ?_⟩
  refine l_val rfl rfl rfl (r_move rfl) ?_
  refine l_val rfl rfl rfl (r_extract rfl rfl rfl) ?_
  refine l_val rfl rfl rfl (r_extract rfl rfl rfl) ?_
  refine l_val rfl rfl rfl (r_assign rfl) ?_
  refine l_val rfl rfl rfl (r_assign rfl) ?_
  refine l_nil ?_
  refine c_seq ?_
  refine c_ops ?_
  refine l_val rfl rfl rfl (r_move rfl) ?_
  refine l_val rfl rfl rfl (r_load_blk_agg rfl Tryz.isAgg43 Tryz.sizeOf43 rfl (hL.get 1 rfl) rfl) ?_
  refine l_by rfl rfl rfl (r_call rfl rfl Tryz.func44 rfl rfl) (on_calls _ xb Ag cg g (hg.keep RNode.kept (Ext0.cells hE)) hok (Ext0.cells hE _ _ hx0) f Aw cw (hw.keep RInt.kept (Ext0.cells hE)) hf) ?_
  rintro _ w ⟨A7, c7, rfl, htoI, hX⟩
  replace hL := hL.ext0 hX
  replace hE := hE.step0 hX
  rw [← hto] at htoI ⊢
  have hto0 := htoI w0 hw
  refine ⟨_, rfl, ?_⟩
  refine l_val rfl rfl rfl (r_assign rfl) ?_
  refine l_nil ?_
  refine c_seq ?_
  refine c_seq ?_
  refine c_ops ?_
  refine l_val rfl rfl rfl (r_move rfl) ?_
  refine l_val rfl rfl rfl (r_not rfl rfl) ?_
  refine l_val rfl rfl rfl (r_move rfl) ?_
  refine l_case 22 rfl (fun hb => ?_) (fun hb => ?_)
  · have hr22 := hb
    have h22 : (byF g f).2 = false := by have h := hb; rw [Bool.not_eq_true'] at h; exact h
    have hres : holdsF g l f = false := by rw [hh, h22]; rfl
    refine l_not rfl rfl rfl ?_
    refine l_not rfl rfl rfl ?_
    refine l_not rfl rfl rfl ?_
    refine l_not rfl rfl rfl ?_
    refine l_not rfl rfl rfl ?_
    refine l_val rfl rfl rfl (r_pick rfl rfl) ?_
    refine l_nil ?_
    refine c_yes rfl ?_
    refine c_seq ?_
 
    refine c_ops ?_
    refine l_val rfl rfl rfl (r_assign rfl) ?_
    refine l_nil ?_
    refine c_ret ?_
    exact ⟨ret_bool rfl hres.symm, hE⟩
  · have hr22 := hb
    have h22 : (byF g f).2 = true := by have h := hb; rw [Bool.not_eq_false'] at h; exact h
    refine l_val rfl rfl rfl (r_move rfl) ?_
    refine l_val rfl rfl rfl (r_len rfl Tryz.underlying90 rfl) ?_
    refine l_val rfl rfl rfl (r_move rfl) ?_
    refine l_val rfl rfl rfl (r_len rfl Tryz.underlying26 rfl) ?_
    refine l_val rfl rfl rfl (r_neq rfl rfl rfl) ?_
    refine l_val rfl rfl rfl (r_pick rfl rfl) ?_
    refine l_nil ?_
    refine c_cond rfl (fun hb => ?_) (fun hb => ?_)
    · have hr28 := hb
      replace hb := of_decide_eq_false (by simpa using hb)
      have h28 : decide ((on.length : Int) = to.length) = false := by have h := hr28; rw [Bool.not_eq_true'] at h; exact h
      have hres : holdsF g l f = false := by rw [hh, h22, h28]; rfl
      refine c_seq ?_
   
      refine c_ops ?_
      refine l_val rfl rfl rfl (r_assign rfl) ?_
      refine l_nil ?_
      refine c_ret ?_
      exact ⟨ret_bool rfl hres.symm, hE⟩
    · have hr28 := hb
      replace hb := of_decide_eq_true (by simpa using hb)
      have h28 : decide ((on.length : Int) = to.length) = true := by have h := hr28; rw [Bool.not_eq_false'] at h; exact h
      rw [h22, h28, Bool.true_and, Bool.true_and] at hh
      have hlen : on.length = to.length := by have := of_decide_eq_true h28; omega
      refine c_skip ?_
      refine c_seq ?_
      refine c_seq ?_
   
      refine c_ops ?_
      refine l_val rfl rfl rfl (r_move rfl) ?_
      refine l_val rfl rfl rfl (r_len rfl Tryz.underlying90 rfl) ?_
      refine l_val rfl rfl rfl (r_move rfl) ?_
      refine l_nil ?_
      refine c_block ?_
   
      refine c_loop [4, 8, 9, 10, 31, 32, 33, 34, 35, 36, 37, 38, 39, 40, 41, 42, 43, 44, 45, 46, 47, 48, 49, 50, 51, 52, 53] (fun m1 e w => ∃ k : Nat, k ≤ on.length ∧ m1 = on.length - k ∧ e 31 = .int .i64 k ∧ matchF l on to = matchF l (on.drop k) (to.drop k) ∧ Has w [.row bm 59 2 (.slice A5 on.length c5) on.length (on.map cells2).flatten, .blk b3 (.cells (factCells f Aw cw).toArray 43 (0, 0))] ∧ Ext0 w0 w) on.length ?_ ?_
      · exact ⟨0, Nat.zero_le _, rfl, rfl, rfl, hL, hE⟩
      intro m1 e w hI
      obtain ⟨k, hk, hm, h31, hmf, hL, hE⟩ := hI
      refine c_know h31 ?_
      refine c_seq ?_
   
      refine c_ops ?_
      refine l_val rfl rfl rfl (r_lss rfl rfl rfl) ?_
      refine l_nil ?_
      refine c_seq ?_
      refine c_cond rfl (fun hb => ?_) (fun hb => ?_)
      · have hr32 := hb
        replace hb := of_decide_eq_true hb
        have hkn : k < on.length := by omega
        have hpk := pat_nat hkn
        have hik := iat_nat (show k < to.length by omega)
        have hkk := hin _ (List.mem_of_getElem? hik)
        have hstep := matchF_step l hpk hik
        obtain ⟨A1, c1, hfc, _⟩ := hl.fact (iat to k) hkk.1 hkk.2
        refine c_skip ?_
        refine c_seq ?_
        refine c_block ?_
        refine c_seq ?_
     
        refine c_ops ?_
        refine l_val rfl rfl rfl (r_move rfl) ?_
        refine l_val rfl rfl rfl (r_indexAddr_sl rfl Tryz.underlying90 Tryz.sizeOf59 rfl (fpairs_at (hL.row 0 rfl)).is rfl (by omega) (by omega)) ?_
        refine l_val rfl rfl rfl (r_load_agg (vs := cells2 (on.getD (k : Int).toNat (0, 0))) rfl Tryz.isAgg59 Tryz.sizeOf59 rfl ((fpairs_at (hL.row 0 rfl)).pair k (by omega) (by omega))) ?_
        refine l_new rfl rfl rfl (n_alloc rfl Tryz.zeroValue59 hL hE) ?_
        rintro _ w ⟨b9, rfl, hb9, hL, hE, hX⟩
        refine l_val rfl rfl rfl (r_assign rfl) ?_
        refine l_new_do rfl rfl (r_store 0 rfl Tryz.sizeOf59 rfl hL hE rfl rfl rfl rfl (fun h => absurd h (Nat.not_lt.2 hb9))) ?_
        rintro w ⟨hL, hE, hz, hk⟩
        refine l_nil ?_
        refine c_seq ?_
     
        refine c_draw mixed (hL) hE ?_
        replace hL := hL.drew
        replace hE := hE.drew
        have hK := hL
        refine h_t 0 rfl rfl (by kernel_rfl) (fun _ _ _ h => h) ⟨hK, hE⟩ rfl (fun W hW => r_move rfl) ?_
        refine h_t 1 rfl rfl (by kernel_rfl) (fun _ _ _ h => h) ⟨hK, hE⟩ rfl (fun W hW => r_nilCheck rfl rfl) ?_
        refine h_t 2 rfl rfl (by kernel_rfl) (fun _ _ _ h => h) ⟨hK, hE⟩ rfl (fun W hW => r_fieldAddr (n := 0) rfl Tryz.underlying51 rfl Tryz.sizeOf25 rfl) ?_
        refine h_t 3 rfl rfl (by kernel_rfl) (fun _ _ _ h => h) ⟨hK, hE⟩ rfl (fun W hW => r_load rfl Tryz.isAgg25 rfl (Ext0.cells hW.2 _ _ hx1)) ?_
        refine h_t 4 rfl rfl (by kernel_rfl) (fun _ _ _ h => h) ⟨hK, hE⟩ rfl (fun W hW => r_move rfl) ?_
        refine h_t 5 rfl rfl (by kernel_rfl) (fun _ _ _ h => h) ⟨hK, hE⟩ rfl (fun W hW => r_move rfl) ?_
        refine h_t 6 rfl rfl (by kernel_rfl) (fun _ _ _ h => h) ⟨hK, hE⟩ rfl (fun W hW => r_indexAddr_sl rfl Tryz.underlying26 Tryz.sizeOf3 rfl hto0.is rfl (by omega) (by omega)) ?_
        refine h_t 7 rfl rfl (by kernel_rfl) (fun _ _ _ h => h) ⟨hK, hE⟩ rfl (fun W hW => r_load (v := .int .i64 (iat to k)) rfl Tryz.isAgg3 rfl ((hto0.keep RInt.kept (Ext0.cells hW.2)).int k (by omega) (by omega))) ?_
        refine h_t 8 rfl rfl (by kernel_rfl) (fun _ _ _ h => h) ⟨hK, hE⟩ rfl (fun W hW => r_indexAddr_sl rfl Tryz.underlying25 Tryz.sizeOf43 rfl hl.is rfl hkk.1 hkk.2) ?_
        refine h_t 9 rfl rfl (by kernel_rfl) (fun _ _ _ h => h) ⟨hK, hE⟩ rfl (fun W hW => r_load_agg (vs := [.int .i64 (fat l (iat to k)).a, .int .i64 (fat l (iat to k)).b, .slice A1 (fat l (iat to k)).why.length c1]) rfl Tryz.isAgg43 Tryz.sizeOf43 rfl (fun j v hj => Ext0.cells hW.2 _ _ (hfc j v hj))) ?_
        refine h_new 10 rfl rfl (by kernel_rfl) rfl (n_alloc rfl Tryz.zeroValue43 hL hE) ?_
        rintro _ w ⟨b10, rfl, hb10, hL, hE, hX⟩
        have hK := hL.sub (.cons _ (.cons_cons _ (.cons_cons _ (.cons_cons _ .slnil))))
        refine ⟨⟨hK, hE⟩, ?_⟩
        refine h_new_do 11 rfl rfl (by kernel_rfl) rfl (r_store 0 rfl Tryz.sizeOf43 rfl hL hE rfl rfl rfl rfl (fun h => absurd h (Nat.not_lt.2 hb10))) ?_
        rintro w ⟨hL, hE, hz, hk⟩
        have hK := hL.sub (.cons _ (.cons_cons _ (.cons_cons _ (.cons_cons _ .slnil))))
        refine ⟨⟨hK, hE⟩, ?_⟩
        refine h_done (by kernel_rfl) ?_
        refine c_seq ?_
     
        refine c_ops ?_
        refine l_val rfl rfl rfl (r_load_agg (vs := cells2 (on.getD (k : Int).toNat (0, 0))) rfl Tryz.isAgg59 Tryz.sizeOf59 rfl (blk_raw (cs := (cells2 (on.getD (k : Int).toNat (0, 0))).toArray) (hL.get 1 rfl) rfl)) ?_
        refine l_val rfl rfl rfl (r_fieldAddr (n := 0) rfl Tryz.underlying43 rfl Tryz.sizeOf3 rfl) ?_
        refine l_val rfl rfl rfl (r_load_blk rfl Tryz.isAgg3 rfl (hL.get 0 rfl) rfl) ?_
        refine l_val rfl rfl rfl (r_fieldAddr (n := 0) rfl Tryz.underlying43 rfl Tryz.sizeOf3 rfl) ?_
        refine l_val rfl rfl rfl (r_load_blk rfl Tryz.isAgg3 rfl (hL.get 0 rfl) rfl) ?_
        refine l_val rfl rfl rfl (r_build rfl rfl (built_fpair _ _)) ?_
        refine l_val rfl rfl rfl (r_neq_fpair (p := (on.getD (k : Int).toNat (0, 0))) (q := ((fat l (iat to k)).a, (fat l (iat to k)).b)) rfl rfl rfl) ?_
        refine l_nil ?_
        refine c_cond rfl (fun hb => ?_) (fun hb => ?_)
        · have hr52 := hb
          have h52 : decide ((on.getD (k : Int).toNat (0, 0)) = ((fat l (iat to k)).a, (fat l (iat to k)).b)) = false := by have h := hr52; rw [Bool.not_eq_true'] at h; exact h
          have hres : holdsF g l f = false := by rw [hh, hmf, hstep, h52]; rfl
          refine c_seq ?_
       
          refine c_ops ?_
          refine l_val rfl rfl rfl (r_assign rfl) ?_
          refine l_nil ?_
          refine c_ret ?_
          exact ⟨ret_bool rfl hres.symm, hE⟩
        · have hr52 := hb
          have h52 : decide ((on.getD (k : Int).toNat (0, 0)) = ((fat l (iat to k)).a, (fat l (iat to k)).b)) = true := by have h := hr52; rw [Bool.not_eq_false'] at h; exact h
          have hmf2 : matchF l on to = matchF l (on.drop (k + 1)) (to.drop (k + 1)) := by rw [hmf, hstep, h52]; rfl
          refine c_skip ?_
       
          refine c_ops ?_
          refine l_val rfl rfl rfl (r_add rfl rfl rfl) ?_
          refine l_val rfl rfl rfl (r_move rfl) ?_
          refine l_nil ?_
          refine ⟨by repeat (first | exact Agree.over _ _ _ | exact Agree.refl _ _ | (refine Agree.puto ?_ _ _ rfl) | (refine Agree.put ?_ _ _ rfl) | (refine Agree.sub ?_ rfl)), ?_⟩
          exact ⟨on.length - (k + 1), by omega, k + 1, by omega, rfl, by show Value.int .i64 (IntKind.i64.wrap ((k : Int) + 1)) = _; rw [wrap_succ hkn (fpairs_at (hL.row 2 rfl)).max], hmf2, hL.tail.tail, hE⟩
      · have hr32 := hb
        replace hb := of_decide_eq_false hb
        have hres : holdsF g l f = true := by rw [hh, hmf, List.drop_eq_nil_of_le (by omega)]; rfl
        refine c_exit ?_
        refine c_seq ?_
     
        refine c_ops ?_
        refine l_val rfl rfl rfl (r_assign rfl) ?_
        refine l_nil ?_
        refine c_ret ?_
        exact ⟨ret_bool rfl hres.symm, hE⟩
end Go.Proofs.YtndophlnapjkhaaGreatDoor.Vc
namespace Go.Proofs.YtndophlnapjkhaaGreatDoor.Vc
open Go Go.RowKit
set_option linter.unusedVariables false
set_option linter.unusedSimpArgs false
theorem formed_ok {g : List GNode} {nl : Nat} {f : Fact} (h : formedF g nl f = true) : FactOk g f ∧ ∀ k ∈ onF g f, 0 ≤ k ∧ k < nl := by
  unfold formedF at h
  rw [Bool.and_eq_true, Bool.and_eq_true] at h
  obtain ⟨⟨ha, hb⟩, hm⟩ := h
  have ha' : 0 ≤ f.a ∧ f.a < g.length := by unfold placeB at ha; simpa using ha
  have hb' : 0 ≤ f.b ∧ f.b < g.length := by unfold placeB at hb; simpa using hb
  cases hmm : manyF g f with
  | none => rw [hmm] at hm; cases hm
  | some m =>
    rw [hmm] at hm
    simp only [Bool.and_eq_true, Bool.not_eq_true'] at hm
    refine ⟨⟨ha', hb', fun h8 h0 => ?_, fun h8 h9 => ?_⟩, fun k hk => outB_no (any_false hm.2 hk)⟩
    · unfold manyF at hmm
      rw [if_neg h8, if_pos (by rw [h0]; rfl)] at hmm
      cases hmm
    · unfold manyF at hmm
      rw [if_neg h8] at hmm
      split at hmm
      · cases hmm
      · first | rw [if_neg h9] at hmm | skip
        split at hmm
        · cases hmm
        · rename_i h1
          omega
theorem checkF_ok {g : List GNode} {l : List Fact} (hfit : Fits g) (h : checkF g l = 0) : GraphOk g ∧ g.length ≤ 2000 ∧ ∀ f ∈ l, formedF g l.length f = true := by
  unfold checkF at h
  split at h
  · rename_i h0
    obtain ⟨h1, h2⟩ := ok_of hfit h0
    refine ⟨h1, h2, fun f hf => ?_⟩
    split at h
    · cases h
    · split at h
      · cases h
      · rename_i h3
        have := any_false (Bool.eq_false_iff.2 h3) hf
        simpa using this
  · rename_i h1
    exact absurd h h1
theorem built_facts (A B : Option Addr) (n m c d : Nat) : Tryz.prog.built 51 [(0, .slice A n c), (1, .slice B m d)] = some #[.slice A n c, .slice B m d] := by kernel_rfl
theorem has_calls (w0 : World) (xb : Nat) (Ag : Option Addr) (cg : Nat) (g : List GNode) (hg : Nodes w0 Ag cg g) (hfit : Fits g) (hk0 : KeysLaid w0) (hx0 : w0.cell? ⟨xb, 0, none⟩ = some (.slice Ag g.length cg)) (Af : Option Addr) (cf : Nat) (l : List Fact) (hl : FactsAt w0 Af cf l) (hx1 : w0.cell? ⟨xb, 1, none⟩ = some (.slice Af l.length cf)) (k : Int) :
    Calls Tryz.prog 40 [.pointer (some ⟨xb, 0, none⟩), .int .i64 k].toArray w0 fun en w' => en = .returned (.bool (decide (checkF g l = 0) && decide (0 ≤ k) && decide (k < l.length))) ∧ Ext0 w0 w' := by
  have hE : Ext0 w0 w0 := Ext.refl _ _
  refine calls [4] Tryz.func40 rfl rfl rfl rfl ?_
  refine c_seq ?_
  refine c_ops ?_
  refine l_val rfl rfl rfl (r_assign rfl) ?_
  refine l_nil ?_
  refine c_seq ?_
  refine c_ops ?_
  refine l_val rfl rfl rfl (r_move rfl) ?_
  refine l_by rfl rfl rfl (r_call rfl rfl Tryz.func34 rfl rfl) (check_calls _ xb Ag cg g (hg.keep RNode.kept (Ext0.cells hE)) hfit (hk0.keep (Ext0.cells hE)) (Ext0.cells hE _ _ hx0) Af cf l (hl.keep RFact.kept (Ext0.cells hE)) (Ext0.cells hE _ _ hx1)) ?_
  rintro _ w ⟨rfl, hX⟩
  replace hE := hE.trans hX
  refine ⟨_, rfl, ?_⟩
  refine l_val rfl rfl rfl (r_eql rfl rfl rfl) ?_
  refine l_val rfl rfl rfl (r_move rfl) ?_
  refine l_case 8 rfl (fun hb => ?_) (fun hb => ?_)
  · have hr8 := hb
    replace hb := of_decide_eq_true hb
    refine l_val rfl rfl rfl (r_move rfl) ?_
    refine l_val rfl rfl rfl (r_geq rfl rfl rfl) ?_
    refine l_val rfl rfl rfl (r_pick rfl rfl) ?_
    refine l_val rfl rfl rfl (r_move rfl) ?_
    refine l_case 12 rfl (fun hb => ?_) (fun hb => ?_)
    · have hr12 := hb
      replace hb := of_decide_eq_true hb
      refine l_val rfl rfl rfl (r_move rfl) ?_
      refine l_val rfl rfl rfl (r_move rfl) ?_
      refine l_val rfl rfl rfl (r_nilCheck rfl rfl) ?_
      refine l_val rfl rfl rfl (r_fieldAddr (n := 0) rfl Tryz.underlying51 rfl Tryz.sizeOf25 rfl) ?_
      refine l_val rfl rfl rfl (r_load rfl Tryz.isAgg25 rfl (Ext0.cells hE _ _ hx1)) ?_
      refine l_val rfl rfl rfl (r_len rfl Tryz.underlying25 rfl) ?_
      refine l_val rfl rfl rfl (r_lss rfl rfl rfl) ?_
      refine l_val rfl rfl rfl (r_pick rfl rfl) ?_
      refine l_val rfl rfl rfl (r_assign rfl) ?_
      refine l_nil ?_
      refine c_ret ?_
      exact ⟨ret_bool rfl (by simp only [hr8, hr12, Bool.true_and, Bool.and_true, Bool.false_and, Bool.and_false, Bool.true_or, Bool.or_true, Bool.false_or, Bool.or_false, Bool.not_true, Bool.not_false, cond_true, cond_false]), hE⟩
    · have hr12 := hb
      replace hb := of_decide_eq_false hb
      refine l_not rfl rfl rfl ?_
      refine l_not rfl rfl rfl ?_
      refine l_not rfl rfl rfl ?_
      refine l_not rfl rfl rfl ?_
      refine l_not rfl rfl rfl ?_
      refine l_not rfl rfl rfl ?_
      refine l_not rfl rfl rfl ?_
      refine l_val rfl rfl rfl (r_pick rfl rfl) ?_
      refine l_val rfl rfl rfl (r_assign rfl) ?_
      refine l_nil ?_
      refine c_ret ?_
      exact ⟨ret_bool rfl (by simp only [hr8, hr12, Bool.true_and, Bool.and_true, Bool.false_and, Bool.and_false, Bool.true_or, Bool.or_true, Bool.false_or, Bool.or_false, Bool.not_true, Bool.not_false, cond_true, cond_false]), hE⟩
  · have hr8 := hb
    replace hb := of_decide_eq_false hb
    refine l_not rfl rfl rfl ?_
    refine l_not rfl rfl rfl ?_
    refine l_val rfl rfl rfl (r_pick rfl rfl) ?_
    refine l_val rfl rfl rfl (r_move rfl) ?_
    refine l_not rfl rfl rfl ?_
    refine l_not rfl rfl rfl ?_
    refine l_not rfl rfl rfl ?_
    refine l_not rfl rfl rfl ?_
    refine l_not rfl rfl rfl ?_
    refine l_not rfl rfl rfl ?_
    refine l_not rfl rfl rfl ?_
    refine l_val rfl rfl rfl (r_pick rfl rfl) ?_
    refine l_val rfl rfl rfl (r_assign rfl) ?_
    refine l_nil ?_
    refine c_ret ?_
    exact ⟨ret_bool rfl (by simp only [hr8, Bool.true_and, Bool.and_true, Bool.false_and, Bool.and_false, Bool.true_or, Bool.or_true, Bool.false_or, Bool.or_false, Bool.not_true, Bool.not_false, cond_true, cond_false]), hE⟩
theorem fat_mem {l : List Fact} {k : Int} (h0 : 0 ≤ k) (h1 : k < l.length) : fat l k ∈ l := by
  unfold fat
  rw [List.getD_eq_getElem?_getD, List.getElem?_eq_getElem (show k.toNat < l.length by omega)]
  exact List.getElem_mem _
def holdsAt (g : List GNode) (l : List Fact) (k : Int) : Bool := decide (checkF g l = 0) && decide (0 ≤ k) && decide (k < l.length) && holdsF g l (fat l k)
theorem Holds_calls (w0 : World) (Ag : Option Addr) (cg : Nat) (g : List GNode) (hg : Nodes w0 Ag cg g) (hfit : Fits g) (hk0 : KeysLaid w0) (Af : Option Addr) (cf : Nat) (l : List Fact) (hl : FactsAt w0 Af cf l) (k : Int) :
    Calls Tryz.prog 17 [.slice Ag g.length cg, .slice Af l.length cf, .int .i64 k].toArray w0 fun en w' => en = .returned (.bool (holdsAt g l k)) ∧ Ext0 w0 w' := by
  have hE : Ext0 w0 w0 := Ext.refl _ _
  have hL : Has w0 [] := trivial
  unfold holdsAt
  refine calls [6] Tryz.func17 rfl rfl rfl rfl ?_
  refine c_seq ?_
  refine c_ops ?_
  refine l_val rfl rfl rfl (r_assign rfl) ?_
  refine l_nil ?_
  refine c_seq ?_
  refine c_ops ?_
  refine l_val rfl rfl rfl (r_move rfl) ?_
  refine l_val rfl rfl rfl (r_move rfl) ?_
  refine l_val rfl rfl rfl (r_build rfl rfl (built_facts _ _ _ _ _ _)) ?_
  refine l_new rfl rfl rfl (n_box rfl hL hE) ?_
  rintro _ w ⟨b11, rfl, hb11, hL, hE, hX⟩
  refine l_val rfl rfl rfl (r_assign rfl) ?_
  refine l_nil ?_
  refine c_seq ?_
  refine c_ops ?_
  refine l_val rfl rfl rfl (r_move rfl) ?_
  refine l_val rfl rfl rfl (r_move rfl) ?_
  refine l_by rfl rfl rfl (r_call rfl rfl Tryz.func40 rfl rfl) (has_calls _ b11 Ag cg g (hg.keep RNode.kept (Ext0.cells hE)) hfit (hk0.keep (Ext0.cells hE)) (by rw [blk_cell (hL.get 0 rfl)]; rfl) Af cf l (hl.keep RFact.kept (Ext0.cells hE)) (by rw [blk_cell (hL.get 0 rfl)]; rfl) k) ?_
  rintro _ w ⟨rfl, hX⟩
  replace hL := hL.ext0 hX
  replace hE := hE.step0 hX
  refine ⟨_, rfl, ?_⟩
  refine l_val rfl rfl rfl (r_move rfl) ?_
  refine l_case 15 rfl (fun hb => ?_) (fun hb => ?_)
  · have hr15 := hb
    have h3 : checkF g l = 0 ∧ 0 ≤ k ∧ k < l.length := by have h := hb; simp at h; exact ⟨h.1.1, h.1.2, h.2⟩
    obtain ⟨hok, hn, hall⟩ := checkF_ok hfit h3.1
    have hk0' := h3.2.1
    have hk1' := h3.2.2
    obtain ⟨A1, c1, hfc, hfw⟩ := hl.fact k hk0' hk1'
    refine l_val rfl rfl rfl (r_move rfl) ?_
    refine l_val rfl rfl rfl (r_move rfl) ?_
    refine l_val rfl rfl rfl (r_move rfl) ?_
    refine l_val rfl rfl rfl (r_indexAddr_sl rfl Tryz.underlying25 Tryz.sizeOf43 rfl hl.is rfl hk0' hk1') ?_
    refine l_val rfl rfl rfl (r_load_agg (vs := [.int .i64 (fat l k).a, .int .i64 (fat l k).b, .slice A1 (fat l k).why.length c1]) rfl Tryz.isAgg43 Tryz.sizeOf43 rfl (fun j v hj => Ext0.cells hE _ _ (hfc j v hj))) ?_
    refine l_by rfl rfl rfl (r_call rfl rfl Tryz.func37 rfl rfl) (fact_holds_calls _ b11 Ag cg g (hg.keep RNode.kept (Ext0.cells hE)) hok (by rw [blk_cell (hL.get 0 rfl)]; rfl) Af cf l (hl.keep RFact.kept (Ext0.cells hE)) (by rw [blk_cell (hL.get 0 rfl)]; rfl) (fat l k) A1 c1 (hfw.keep RInt.kept (Ext0.cells hE)) (formed_ok (hall _ (fat_mem hk0' hk1'))).1 (formed_ok (hall _ (fat_mem hk0' hk1'))).2) ?_
    rintro _ w ⟨rfl, hX⟩
    replace hL := hL.ext0 hX
    replace hE := hE.step0 hX
    refine ⟨_, rfl, ?_⟩
    refine l_val rfl rfl rfl (r_pick rfl rfl) ?_
    refine l_val rfl rfl rfl (r_assign rfl) ?_
    refine l_nil ?_
    refine c_ret ?_
    exact ⟨ret_bool rfl (by rw [hr15]; rfl), hE⟩
  · have hr15 := hb
    refine l_not rfl rfl rfl ?_
    refine l_not rfl rfl rfl ?_
    refine l_not rfl rfl rfl ?_
    refine l_not rfl rfl rfl ?_
    refine l_not rfl rfl rfl ?_
    refine l_not rfl rfl rfl ?_
    refine l_val rfl rfl rfl (r_pick rfl rfl) ?_
    refine l_val rfl rfl rfl (r_assign rfl) ?_
    refine l_nil ?_
    refine c_ret ?_
    exact ⟨ret_bool rfl (by rw [hr15]; rfl), hE⟩
theorem First1_calls (w0 : World) (xb : Nat) (Ag : Option Addr) (cg : Nat) (g : List GNode) (hg : Nodes w0 Ag cg g) (hok : GraphOk g) (hx0 : w0.cell? ⟨xb, 0, none⟩ = some (.slice Ag g.length cg)) (Af : Option Addr) (cf : Nat) (l : List Fact) (hl : FactsAt w0 Af cf l) (hx1 : w0.cell? ⟨xb, 1, none⟩ = some (.slice Af l.length cf)) (f : Fact) (Aw : Option Addr) (cw : Nat) (hw : Ints w0 Aw cw f.why) (hf : formedF g l.length f = true) (xp : Nat) (t : TypeId) (hL : Has w0 [.blk xp (.cells #[.pointer (some ⟨xb, 0, none⟩)] t (0, 0))]) :
    Calls Tryz.prog 36 [.agg (factCells f Aw cw).toArray, .pointer (some ⟨xp, 0, none⟩)].toArray w0 fun en w' => en = .returned (.bool (!holdsF g l f)) ∧ Ext0 w0 w' := by
  have hE : Ext0 w0 w0 := Ext.refl _ _
  refine calls [3] Tryz.func36 rfl rfl rfl rfl ?_
  refine c_seq ?_
  refine c_ops ?_
  refine l_new rfl rfl rfl (n_box rfl hL hE) ?_
  rintro _ w ⟨b2, rfl, hb2, hL, hE, hX⟩
  refine l_val rfl rfl rfl (r_assign rfl) ?_
  refine l_nil ?_
  refine c_seq ?_
  refine c_ops ?_
  refine l_val rfl rfl rfl (r_load_blk rfl Tryz.isAgg71 rfl (hL.get 1 rfl) rfl) ?_
  refine l_val rfl rfl rfl (r_load_blk_agg rfl Tryz.isAgg43 Tryz.sizeOf43 rfl (hL.get 0 rfl) rfl) ?_
  refine l_by rfl rfl rfl (r_call rfl rfl Tryz.func37 rfl rfl) (fact_holds_calls _ xb Ag cg g (hg.keep RNode.kept (Ext0.cells hE)) hok (Ext0.cells hE _ _ hx0) Af cf l (hl.keep RFact.kept (Ext0.cells hE)) (Ext0.cells hE _ _ hx1) f Aw cw (hw.keep RInt.kept (Ext0.cells hE)) (formed_ok hf).1 (formed_ok hf).2) ?_
  rintro _ w ⟨rfl, hX⟩
  replace hL := hL.ext0 hX
  replace hE := hE.trans hX
  refine ⟨_, rfl, ?_⟩
  refine l_val rfl rfl rfl (r_not rfl rfl) ?_
  refine l_val rfl rfl rfl (r_assign rfl) ?_
  refine l_nil ?_
  refine c_ret ?_
  exact ⟨rfl, hE⟩
def firstF (g : List GNode) (l : List Fact) : Int := idxV (findS (fun (_ : Unit) f => (!holdsF g l f, ())) 0 () l).1
theorem First_calls (w0 : World) (Ag : Option Addr) (cg : Nat) (g : List GNode) (hg : Nodes w0 Ag cg g) (hfit : Fits g) (hk0 : KeysLaid w0) (Af : Option Addr) (cf : Nat) (l : List Fact) (hl : FactsAt w0 Af cf l) :
    Calls Tryz.prog 13 [.slice Ag g.length cg, .slice Af l.length cf].toArray w0 fun en w' => en = .returned (.tuple #[.int .i64 (if checkF g l = 0 then firstF g l else 0), .int .i64 (checkF g l)]) ∧ Ext0 w0 w' := by
  have hE : Ext0 w0 w0 := Ext.refl _ _
  have hL : Has w0 [] := trivial
  refine calls [4, 5] Tryz.func13 rfl rfl rfl rfl ?_
  refine c_seq ?_
  refine c_ops ?_
  refine l_val rfl rfl rfl (r_assign rfl) ?_
  refine l_val rfl rfl rfl (r_assign rfl) ?_
  refine l_nil ?_
  refine c_seq ?_
  refine c_ops ?_
  refine l_val rfl rfl rfl (r_move rfl) ?_
  refine l_val rfl rfl rfl (r_move rfl) ?_
  refine l_val rfl rfl rfl (r_build rfl rfl (built_facts _ _ _ _ _ _)) ?_
  refine l_new rfl rfl rfl (n_box rfl hL hE) ?_
  rintro _ w ⟨b11, rfl, hb11, hL, hE, hX⟩
  refine l_new rfl rfl rfl (n_alloc rfl Tryz.zeroValue71 hL hE) ?_
  rintro _ w ⟨b6, rfl, hb6, hL, hE, hX⟩
  refine l_new_do rfl rfl (r_store 0 rfl Tryz.sizeOf71 rfl hL hE rfl rfl rfl rfl (fun h => absurd h (Nat.not_lt.2 hb6))) ?_
  rintro w ⟨hL, hE, hz, hk⟩
  refine l_nil ?_
  refine c_seq ?_
  refine c_seq ?_
  refine c_ops ?_
  refine l_val rfl rfl rfl (r_load_blk rfl Tryz.isAgg71 rfl (hL.get 0 rfl) rfl) ?_
  refine l_by rfl rfl rfl (r_call rfl rfl Tryz.func34 rfl rfl) (check_calls _ b11 Ag cg g (hg.keep RNode.kept (Ext0.cells hE)) hfit (hk0.keep (Ext0.cells hE)) (by rw [blk_cell (hL.get 1 rfl)]; rfl) Af cf l (hl.keep RFact.kept (Ext0.cells hE)) (by rw [blk_cell (hL.get 1 rfl)]; rfl)) ?_
  rintro _ w ⟨rfl, hX⟩
  replace hL := hL.ext0 hX
  replace hE := hE.step0 hX
  refine ⟨_, rfl, ?_⟩
  refine l_val rfl rfl rfl (r_assign rfl) ?_
  refine l_nil ?_
  refine c_seq ?_
  refine c_ops ?_
  refine l_val rfl rfl rfl (r_move rfl) ?_
  refine l_val rfl rfl rfl (r_neq rfl rfl rfl) ?_
  refine l_nil ?_
  refine c_cond rfl (fun hb => ?_) (fun hb => ?_)
  · have hr15 := hb
    replace hb := of_decide_eq_false (by simpa using hb)
    have hz : ¬ checkF g l = 0 := hb
    rw [if_neg hz]
    refine c_seq ?_
 
    refine c_ops ?_
    refine l_val rfl rfl rfl (r_move rfl) ?_
    refine l_val rfl rfl rfl (r_assign rfl) ?_
    refine l_val rfl rfl rfl (r_assign rfl) ?_
    refine l_nil ?_
    refine c_ret ?_
    exact ⟨rfl, hE⟩
  · have hr15 := hb
    replace hb := of_decide_eq_true (by simpa using hb)
    have hz : checkF g l = 0 := hb
    obtain ⟨hok, hn, hall⟩ := checkF_ok hfit hz
    rw [if_pos hz, hz]
    refine c_skip ?_
    refine c_seq ?_
 
    refine c_ops ?_
    refine l_val rfl rfl rfl (r_move rfl) ?_
    refine l_val rfl rfl rfl (r_makeFunc rfl) ?_
    have hT : Tests Tryz.prog (fun (_ : Unit) W => Has W [.blk b6 (.cells #[.pointer (some ⟨b11, 0, none⟩)] 71 (0, 0)), .blk b11 (.cells #[.slice Ag g.length cg, .slice Af l.length cf] 51 (0, 0))] ∧ Ext0 w0 W) (fun _ => False) (DN (fun W f cs => RFact W f cs ∧ formedF g l.length f = true) 3) (fun _ f => (!holdsF g l f, ())) (.func (.func 36) #[] #[.pointer (some ⟨b6, 0, none⟩)]) := ⟨_, _, _, _, _, rfl, Tryz.func36, rfl, rfl, fun _ f v W hs hv => (by
      obtain ⟨cs, _, ⟨⟨Aw, cw, rfl, hw⟩, hff⟩, rfl⟩ := hv
      exact (First1_calls W b11 Ag cg g (hg.keep RNode.kept (Ext0.cells hs.2)) hok (by rw [blk_cell (hs.1.get 1 rfl)]; rfl) Af cf l (hl.keep RFact.kept (Ext0.cells hs.2)) (by rw [blk_cell (hs.1.get 1 rfl)]; rfl) f Aw cw hw hff b6 _ (hs.1.sub (.cons_cons _ (.cons _ .slnil)))).mono (fun en w' ⟨h1, h2⟩ => ⟨h1, h2, hs.1.ext0 h2, hs.2.trans h2⟩))⟩
    refine l_by rfl rfl rfl (r_call rfl rfl Tryz.func35 rfl rfl) (IndexFunc_fact (fun (_ : Unit) W => Has W [.blk b6 (.cells #[.pointer (some ⟨b11, 0, none⟩)] 71 (0, 0)), .blk b11 (.cells #[.slice Ag g.length cg, .slice Af l.length cf] 51 (0, 0))] ∧ Ext0 w0 W) (fun _ => False) (fun W f cs => RFact W f cs ∧ formedF g l.length f = true) (fun _ f => (!holdsF g l f, ())) _ _ _ _ l _ () (fun W hW => (hl.keep RFact.kept (Ext0.cells (hE.trans hW))).and hall) hT ⟨hL, hE⟩) ?_
    rintro _ w ⟨rfl, hX, hY⟩
    replace hE := hE.step0 hX
    refine ⟨_, rfl, ?_⟩
    refine l_val rfl rfl rfl (r_assign rfl) ?_
    refine l_val rfl rfl rfl (r_assign rfl) ?_
    refine l_nil ?_
    refine c_ret ?_
    exact ⟨rfl, hE⟩
end Go.Proofs.YtndophlnapjkhaaGreatDoor.Vc
namespace Go.Proofs.YtndophlnapjkhaaGreatDoor.Vc
open Go Go.RowKit
set_option linter.unusedVariables false
set_option linter.unusedSimpArgs false
theorem iat_eq {a b : List Int} {k : Nat} (ha : k < a.length) (hb : k < b.length) (h : ¬ iat a k = iat b k) : a ≠ b := fun e => h (by rw [e])
theorem eq_of_iat {a b : List Int} (hl : a.length = b.length) (h : ∀ k : Nat, k < a.length → iat a k = iat b k) : a = b := by
  refine List.ext_getElem hl fun k h1 h2 => ?_
  have := h k h1
  have e1 := iat_nat h1
  have e2 := iat_nat h2
  rw [List.getElem?_eq_getElem h1] at e1
  rw [List.getElem?_eq_getElem h2] at e2
  injection e1 with e1
  injection e2 with e2
  rw [e1, e2]
  exact this
theorem Equal_int (w0 : World) (A : Option Addr) (c : Nat) (a : List Int) (ha : Ints w0 A c a) (B : Option Addr) (d : Nat) (b : List Int) (hb' : Ints w0 B d b) :
    Calls Tryz.prog 65 [.slice A a.length c, .slice B b.length d].toArray w0 fun en w' => en = .returned (.bool (decide (a = b))) ∧ Ext0 w0 w' := by
  have hE : Ext0 w0 w0 := Ext.refl _ _
  have hL : Has w0 [] := trivial
  refine calls [4] Tryz.func65 rfl rfl rfl rfl ?_
  refine c_seq ?_
  refine c_ops ?_
  refine l_val rfl rfl rfl (r_assign rfl) ?_
  refine l_nil ?_
  refine c_seq ?_
  refine c_seq ?_
  refine c_ops ?_
  refine l_val rfl rfl rfl (r_move rfl) ?_
  refine l_val rfl rfl rfl (r_len rfl Tryz.underlying26 rfl) ?_
  refine l_val rfl rfl rfl (r_move rfl) ?_
  refine l_val rfl rfl rfl (r_len rfl Tryz.underlying26 rfl) ?_
  refine l_val rfl rfl rfl (r_neq rfl rfl rfl) ?_
  refine l_nil ?_
  refine c_cond rfl (fun hb => ?_) (fun hb => ?_)
  · have hr10 := hb
    replace hb := of_decide_eq_false (by simpa using hb)
    have hres : decide (a = b) = false := decide_eq_false fun e => hb (by rw [e])
    refine c_seq ?_
 
    refine c_ops ?_
    refine l_val rfl rfl rfl (r_assign rfl) ?_
    refine l_nil ?_
    refine c_ret ?_
    exact ⟨ret_bool rfl hres.symm, hE⟩
  · have hr10 := hb
    replace hb := of_decide_eq_true (by simpa using hb)
    have hlen : a.length = b.length := by omega
    refine c_skip ?_
    refine c_seq ?_
    refine c_seq ?_
 
    refine c_ops ?_
    refine l_val rfl rfl rfl (r_move rfl) ?_
    refine l_val rfl rfl rfl (r_len rfl Tryz.underlying26 rfl) ?_
    refine l_val rfl rfl rfl (r_move rfl) ?_
    refine l_nil ?_
    refine c_block ?_
 
    refine c_loop [4, 5, 13, 14, 15, 16, 17, 18, 19, 20, 21, 22, 23, 24, 25] (fun m1 e w => ∃ k : Nat, k ≤ a.length ∧ m1 = a.length - k ∧ e 13 = .int .i64 k ∧ (∀ j : Nat, j < k → iat a j = iat b j) ∧ Ext0 w0 w) a.length ?_ ?_
    · exact ⟨0, Nat.zero_le _, rfl, rfl, fun j h => absurd h (Nat.not_lt_zero _), hE⟩
    intro m1 e w hI
    obtain ⟨k, hk, hm, h13, hall, hE⟩ := hI
    refine c_know h13 ?_
    have hL : Has w [] := trivial
    refine c_seq ?_
 
    refine c_ops ?_
    refine l_val rfl rfl rfl (r_lss rfl rfl rfl) ?_
    refine l_nil ?_
    refine c_seq ?_
    refine c_cond rfl (fun hb => ?_) (fun hb => ?_)
    · have hr14 := hb
      replace hb := of_decide_eq_true hb
      have hkn : k < a.length := by omega
      refine c_skip ?_
      refine c_seq ?_
      refine c_block ?_
      refine c_seq ?_
   
      refine c_ops ?_
      refine l_val rfl rfl rfl (r_move rfl) ?_
      refine l_val rfl rfl rfl (r_assign rfl) ?_
      refine l_nil ?_
      refine c_seq ?_
   
      refine c_draw mixed (hL) hE ?_
      replace hL := hL.drew
      replace hE := hE.drew
      have hK := hL
      refine h_t 0 rfl rfl (by kernel_rfl) (fun _ _ _ h => h) ⟨hK, hE⟩ rfl (fun W hW => r_move rfl) ?_
      refine h_t 1 rfl rfl (by kernel_rfl) (fun _ _ _ h => h) ⟨hK, hE⟩ rfl (fun W hW => r_move rfl) ?_
      refine h_t 2 rfl rfl (by kernel_rfl) (fun _ _ _ h => h) ⟨hK, hE⟩ rfl (fun W hW => r_indexAddr_sl rfl Tryz.underlying26 Tryz.sizeOf3 rfl ha.is rfl (by omega) (by omega)) ?_
      refine h_t 3 rfl rfl (by kernel_rfl) (fun _ _ _ h => h) ⟨hK, hE⟩ rfl (fun W hW => r_load (v := .int .i64 (iat a k)) rfl Tryz.isAgg3 rfl ((ha.keep RInt.kept (Ext0.cells hW.2)).int k (by omega) (by omega))) ?_
      refine h_t 4 rfl rfl (by kernel_rfl) (fun _ _ _ h => h) ⟨hK, hE⟩ rfl (fun W hW => r_move rfl) ?_
      refine h_t 5 rfl rfl (by kernel_rfl) (fun _ _ _ h => h) ⟨hK, hE⟩ rfl (fun W hW => r_move rfl) ?_
      refine h_t 6 rfl rfl (by kernel_rfl) (fun _ _ _ h => h) ⟨hK, hE⟩ rfl (fun W hW => r_indexAddr_sl rfl Tryz.underlying26 Tryz.sizeOf3 rfl hb'.is rfl (by omega) (by omega)) ?_
      refine h_t 7 rfl rfl (by kernel_rfl) (fun _ _ _ h => h) ⟨hK, hE⟩ rfl (fun W hW => r_load (v := .int .i64 (iat b k)) rfl Tryz.isAgg3 rfl ((hb'.keep RInt.kept (Ext0.cells hW.2)).int k (by omega) (by omega))) ?_
      refine h_t 8 rfl rfl (by kernel_rfl) (fun _ _ _ h => h) ⟨hK, hE⟩ rfl (fun W hW => r_neq rfl rfl rfl) ?_
      refine h_done (by kernel_rfl) ?_
      refine c_cond rfl (fun hb => ?_) (fun hb => ?_)
      · have hr24 := hb
        replace hb := of_decide_eq_false (by simpa using hb)
        have hres : decide (a = b) = false := decide_eq_false (iat_eq hkn (by omega) hb)
        refine c_seq ?_
     
        refine c_ops ?_
        refine l_val rfl rfl rfl (r_assign rfl) ?_
        refine l_nil ?_
        refine c_ret ?_
        exact ⟨ret_bool rfl hres.symm, hE⟩
      · have hr24 := hb
        replace hb := of_decide_eq_true (by simpa using hb)
        have hall2 : ∀ j : Nat, j < k + 1 → iat a j = iat b j := fun j hj => by
          rcases Nat.lt_or_eq_of_le (Nat.le_of_lt_succ hj) with h | rfl
          · exact hall j h
          · exact hb
        refine c_skip ?_
     
        refine c_ops ?_
        refine l_val rfl rfl rfl (r_add rfl rfl rfl) ?_
        refine l_val rfl rfl rfl (r_move rfl) ?_
        refine l_nil ?_
        refine ⟨by repeat (first | exact Agree.over _ _ _ | exact Agree.refl _ _ | (refine Agree.puto ?_ _ _ rfl) | (refine Agree.put ?_ _ _ rfl) | (refine Agree.sub ?_ rfl)), ?_⟩
        exact ⟨a.length - (k + 1), by omega, k + 1, by omega, rfl, by show Value.int .i64 (IntKind.i64.wrap ((k : Int) + 1)) = _; rw [wrap_succ hkn ha.max], hall2, hE⟩
    · have hr14 := hb
      replace hb := of_decide_eq_false hb
      have hres : decide (a = b) = true := decide_eq_true (eq_of_iat hlen (fun j hj => hall j (by omega)))
      refine c_exit ?_
      refine c_seq ?_
   
      refine c_ops ?_
      refine l_val rfl rfl rfl (r_assign rfl) ?_
      refine l_nil ?_
      refine c_ret ?_
      exact ⟨ret_bool rfl hres.symm, hE⟩
theorem alike_calls (w0 : World) (f h : Fact) (A : Option Addr) (c : Nat) (B : Option Addr) (d : Nat) (hf : Ints w0 A c f.why) (hh : Ints w0 B d h.why) :
    Calls Tryz.prog 49 [.agg (factCells f A c).toArray, .agg (factCells h B d).toArray].toArray w0 fun en w' => en = .returned (.bool (decide (f = h))) ∧ Ext0 w0 w' := by
  have hE : Ext0 w0 w0 := Ext.refl _ _
  have hL : Has w0 [] := trivial
  have he : decide (f = h) = (decide (f.a = h.a) && decide (f.b = h.b) && decide (f.why = h.why)) := by
    cases f; cases h
    simp only [Fact.mk.injEq]
    rw [Bool.eq_iff_iff]
    simp [and_assoc]
  rw [he]
  refine calls [4] Tryz.func49 rfl rfl rfl rfl ?_
  refine c_seq ?_
  refine c_ops ?_
  refine l_new rfl rfl rfl (n_box rfl hL hE) ?_
  rintro _ w ⟨b2, rfl, hb2, hL, hE, hX⟩
  refine l_new rfl rfl rfl (n_box rfl hL hE) ?_
  rintro _ w ⟨b3, rfl, hb3, hL, hE, hX⟩
  refine l_val rfl rfl rfl (r_assign rfl) ?_
  refine l_nil ?_
  refine c_seq ?_
  refine c_ops ?_
  refine l_val rfl rfl rfl (r_fieldAddr (n := 0) rfl Tryz.underlying43 rfl Tryz.sizeOf3 rfl) ?_
  refine l_val rfl rfl rfl (r_load_blk rfl Tryz.isAgg3 rfl (hL.get 1 rfl) rfl) ?_
  refine l_val rfl rfl rfl (r_fieldAddr (n := 0) rfl Tryz.underlying43 rfl Tryz.sizeOf3 rfl) ?_
  refine l_val rfl rfl rfl (r_load_blk rfl Tryz.isAgg3 rfl (hL.get 0 rfl) rfl) ?_
  refine l_val rfl rfl rfl (r_eql rfl rfl rfl) ?_
  refine l_val rfl rfl rfl (r_move rfl) ?_
  refine l_case 10 rfl (fun hb => ?_) (fun hb => ?_)
  · have hr10 := hb
    replace hb := of_decide_eq_true hb
    refine l_val rfl rfl rfl (r_fieldAddr (n := 0) rfl Tryz.underlying43 rfl Tryz.sizeOf3 rfl) ?_
    refine l_val rfl rfl rfl (r_load_blk rfl Tryz.isAgg3 rfl (hL.get 1 rfl) rfl) ?_
    refine l_val rfl rfl rfl (r_fieldAddr (n := 0) rfl Tryz.underlying43 rfl Tryz.sizeOf3 rfl) ?_
    refine l_val rfl rfl rfl (r_load_blk rfl Tryz.isAgg3 rfl (hL.get 0 rfl) rfl) ?_
    refine l_val rfl rfl rfl (r_eql rfl rfl rfl) ?_
    refine l_val rfl rfl rfl (r_pick rfl rfl) ?_
    refine l_val rfl rfl rfl (r_move rfl) ?_
    refine l_case 17 rfl (fun hb => ?_) (fun hb => ?_)
    · have hr17 := hb
      replace hb := of_decide_eq_true hb
      refine l_val rfl rfl rfl (r_fieldAddr (n := 0) rfl Tryz.underlying43 rfl Tryz.sizeOf26 rfl) ?_
      refine l_val rfl rfl rfl (r_load_blk rfl Tryz.isAgg26 rfl (hL.get 1 rfl) rfl) ?_
      refine l_val rfl rfl rfl (r_fieldAddr (n := 0) rfl Tryz.underlying43 rfl Tryz.sizeOf26 rfl) ?_
      refine l_val rfl rfl rfl (r_load_blk rfl Tryz.isAgg26 rfl (hL.get 0 rfl) rfl) ?_
      refine l_by rfl rfl rfl (r_call rfl rfl Tryz.func65 rfl rfl) (Equal_int _ A c f.why (hf.keep RInt.kept (Ext0.cells hE)) B d h.why (hh.keep RInt.kept (Ext0.cells hE))) ?_
      rintro _ w ⟨rfl, hX⟩
      replace hE := hE.trans hX
      refine ⟨_, rfl, ?_⟩
      refine l_val rfl rfl rfl (r_pick rfl rfl) ?_
      refine l_val rfl rfl rfl (r_assign rfl) ?_
      refine l_nil ?_
      refine c_ret ?_
      exact ⟨ret_bool rfl (by simp only [hr10, hr17, Bool.true_and, Bool.and_true, Bool.false_and, Bool.and_false, Bool.true_or, Bool.or_true, Bool.false_or, Bool.or_false, Bool.not_true, Bool.not_false, cond_true, cond_false]), hE⟩
    · have hr17 := hb
      replace hb := of_decide_eq_false hb
      refine l_not rfl rfl rfl ?_
      refine l_not rfl rfl rfl ?_
      refine l_not rfl rfl rfl ?_
      refine l_not rfl rfl rfl ?_
      refine l_not rfl rfl rfl ?_
      refine l_val rfl rfl rfl (r_pick rfl rfl) ?_
      refine l_val rfl rfl rfl (r_assign rfl) ?_
      refine l_nil ?_
      refine c_ret ?_
      exact ⟨ret_bool rfl (by simp only [hr10, hr17, Bool.true_and, Bool.and_true, Bool.false_and, Bool.and_false, Bool.true_or, Bool.or_true, Bool.false_or, Bool.or_false, Bool.not_true, Bool.not_false, cond_true, cond_false]), hE⟩
  · have hr10 := hb
    replace hb := of_decide_eq_false hb
    refine l_not rfl rfl rfl ?_
    refine l_not rfl rfl rfl ?_
    refine l_not rfl rfl rfl ?_
    refine l_not rfl rfl rfl ?_
    refine l_not rfl rfl rfl ?_
    refine l_val rfl rfl rfl (r_pick rfl rfl) ?_
    refine l_val rfl rfl rfl (r_move rfl) ?_
    refine l_not rfl rfl rfl ?_
    refine l_not rfl rfl rfl ?_
    refine l_not rfl rfl rfl ?_
    refine l_not rfl rfl rfl ?_
    refine l_not rfl rfl rfl ?_
    refine l_val rfl rfl rfl (r_pick rfl rfl) ?_
    refine l_val rfl rfl rfl (r_assign rfl) ?_
    refine l_nil ?_
    refine c_ret ?_
    exact ⟨ret_bool rfl (by simp only [hr10, Bool.true_and, Bool.and_true, Bool.false_and, Bool.and_false, Bool.true_or, Bool.or_true, Bool.false_or, Bool.or_false, Bool.not_true, Bool.not_false, cond_true, cond_false]), hE⟩
theorem fat_nat {l : List Fact} {k : Nat} (h : k < l.length) : l[k]? = some (fat l k) := by
  unfold fat
  rw [Int.toNat_natCast, List.getD_eq_getElem?_getD, List.getElem?_eq_getElem h]
  rfl
theorem eq_of_fat {a b : List Fact} (hl : a.length = b.length) (h : ∀ k : Nat, k < a.length → fat a k = fat b k) : a = b := by
  refine List.ext_getElem hl fun k h1 h2 => ?_
  have := h k h1
  have e1 := fat_nat h1
  have e2 := fat_nat h2
  rw [List.getElem?_eq_getElem h1] at e1
  rw [List.getElem?_eq_getElem h2] at e2
  injection e1 with e1
  injection e2 with e2
  rw [e1, e2]
  exact this
theorem EqualFunc_fact (w0 : World) (A : Option Addr) (c : Nat) (a : List Fact) (ha : FactsAt w0 A c a) (B : Option Addr) (d : Nat) (b : List Fact) (hb' : FactsAt w0 B d b) :
    Calls Tryz.prog 48 [.slice A a.length c, .slice B b.length d, .func (.func 49) #[] #[]].toArray w0 fun en w' => en = .returned (.bool (decide (a = b))) ∧ Ext0 w0 w' := by
  have hE : Ext0 w0 w0 := Ext.refl _ _
  have hL : Has w0 [] := trivial
  refine calls [6] Tryz.func48 rfl rfl rfl rfl ?_
  refine c_seq ?_
  refine c_ops ?_
  refine l_val rfl rfl rfl (r_assign rfl) ?_
  refine l_nil ?_
  refine c_seq ?_
  refine c_seq ?_
  refine c_ops ?_
  refine l_val rfl rfl rfl (r_move rfl) ?_
  refine l_val rfl rfl rfl (r_len rfl Tryz.underlying25 rfl) ?_
  refine l_val rfl rfl rfl (r_move rfl) ?_
  refine l_val rfl rfl rfl (r_len rfl Tryz.underlying25 rfl) ?_
  refine l_val rfl rfl rfl (r_neq rfl rfl rfl) ?_
  refine l_nil ?_
  refine c_cond rfl (fun hb => ?_) (fun hb => ?_)
  · have hr14 := hb
    replace hb := of_decide_eq_false (by simpa using hb)
    have hres : decide (a = b) = false := decide_eq_false fun e => hb (by rw [e])
    refine c_seq ?_
 
    refine c_ops ?_
    refine l_val rfl rfl rfl (r_assign rfl) ?_
    refine l_nil ?_
    refine c_ret ?_
    exact ⟨ret_bool rfl hres.symm, hE⟩
  · have hr14 := hb
    replace hb := of_decide_eq_true (by simpa using hb)
    have hlen : a.length = b.length := by omega
    refine c_skip ?_
    refine c_seq ?_
    refine c_seq ?_
 
    refine c_ops ?_
    refine l_val rfl rfl rfl (r_move rfl) ?_
    refine l_val rfl rfl rfl (r_len rfl Tryz.underlying25 rfl) ?_
    refine l_val rfl rfl rfl (r_move rfl) ?_
    refine l_nil ?_
    refine c_block ?_
 
    refine c_loop [6, 7, 8, 9, 17, 18, 19, 20, 21, 22, 23, 24, 25, 26, 27, 28, 29, 30, 31] (fun m1 e w => ∃ k : Nat, k ≤ a.length ∧ m1 = a.length - k ∧ e 17 = .int .i64 k ∧ (∀ j : Nat, j < k → fat a j = fat b j) ∧ Ext0 w0 w) a.length ?_ ?_
    · exact ⟨0, Nat.zero_le _, rfl, rfl, fun j h => absurd h (Nat.not_lt_zero _), hE⟩
    intro m1 e w hI
    obtain ⟨k, hk, hm, h17, hall, hE⟩ := hI
    refine c_know h17 ?_
    have hL : Has w [] := trivial
    refine c_seq ?_
 
    refine c_ops ?_
    refine l_val rfl rfl rfl (r_lss rfl rfl rfl) ?_
    refine l_nil ?_
    refine c_seq ?_
    refine c_cond rfl (fun hb => ?_) (fun hb => ?_)
    · have hr18 := hb
      replace hb := of_decide_eq_true hb
      have hkn : k < a.length := by omega
      obtain ⟨A1, c1, hfa, hwa⟩ := ha.fact k (by omega) (by omega)
      obtain ⟨B1, d1, hfb, hwb⟩ := hb'.fact k (by omega) (by omega)
      refine c_skip ?_
      refine c_seq ?_
      refine c_block ?_
      refine c_seq ?_
   
      refine c_ops ?_
      refine l_val rfl rfl rfl (r_move rfl) ?_
      refine l_val rfl rfl rfl (r_indexAddr_sl rfl Tryz.underlying25 Tryz.sizeOf43 rfl ha.is rfl (by omega) (by omega)) ?_
      refine l_val rfl rfl rfl (r_load_agg (vs := [.int .i64 (fat a k).a, .int .i64 (fat a k).b, .slice A1 (fat a k).why.length c1]) rfl Tryz.isAgg43 Tryz.sizeOf43 rfl (fun j v hj => Ext0.cells hE _ _ (hfa j v hj))) ?_
      refine l_new rfl rfl rfl (n_alloc rfl Tryz.zeroValue43 hL hE) ?_
      rintro _ w ⟨b8, rfl, hb8, hL, hE, hX⟩
      refine l_val rfl rfl rfl (r_assign rfl) ?_
      refine l_new_do rfl rfl (r_store 0 rfl Tryz.sizeOf43 rfl hL hE rfl rfl rfl rfl (fun h => absurd h (Nat.not_lt.2 hb8))) ?_
      rintro w ⟨hL, hE, hz, hk⟩
      refine l_nil ?_
      refine c_seq ?_
   
      refine c_ops ?_
      refine l_val rfl rfl rfl (r_move rfl) ?_
      refine l_val rfl rfl rfl (r_move rfl) ?_
      refine l_val rfl rfl rfl (r_indexAddr_sl rfl Tryz.underlying25 Tryz.sizeOf43 rfl hb'.is rfl (by omega) (by omega)) ?_
      refine l_val rfl rfl rfl (r_load_agg (vs := [.int .i64 (fat b k).a, .int .i64 (fat b k).b, .slice B1 (fat b k).why.length d1]) rfl Tryz.isAgg43 Tryz.sizeOf43 rfl (fun j v hj => Ext0.cells hE _ _ (hfb j v hj))) ?_
      refine l_new rfl rfl rfl (n_alloc rfl Tryz.zeroValue43 hL hE) ?_
      rintro _ w ⟨b9, rfl, hb9, hL, hE, hX⟩
      refine l_new_do rfl rfl (r_store 0 rfl Tryz.sizeOf43 rfl hL hE rfl rfl rfl rfl (fun h => absurd h (Nat.not_lt.2 hb9))) ?_
      rintro w ⟨hL, hE, hz, hk⟩
      refine l_nil ?_
      refine c_seq ?_
   
      refine c_ops ?_
      refine l_val rfl rfl rfl (r_move rfl) ?_
      refine l_val rfl rfl rfl (r_load_blk_agg rfl Tryz.isAgg43 Tryz.sizeOf43 rfl (hL.get 1 rfl) rfl) ?_
      refine l_val rfl rfl rfl (r_load_blk_agg rfl Tryz.isAgg43 Tryz.sizeOf43 rfl (hL.get 0 rfl) rfl) ?_
      refine l_by rfl rfl rfl (r_call rfl rfl Tryz.func49 rfl rfl) (alike_calls _ (fat a k) (fat b k) A1 c1 B1 d1 (hwa.keep RInt.kept (Ext0.cells hE)) (hwb.keep RInt.kept (Ext0.cells hE))) ?_
      rintro _ w ⟨rfl, hX⟩
      replace hE := hE.trans hX
      refine ⟨_, rfl, ?_⟩
      refine l_val rfl rfl rfl (r_not rfl rfl) ?_
      refine l_nil ?_
      refine c_cond rfl (fun hb => ?_) (fun hb => ?_)
      · have hr30 := hb
        have hres : decide (a = b) = false := decide_eq_false fun e => by
          have h : ¬ fat a k = fat b k := by have h := hr30; rw [Bool.not_eq_true'] at h; exact of_decide_eq_false h
          exact h (by rw [e])
        refine c_seq ?_
     
        refine c_ops ?_
        refine l_val rfl rfl rfl (r_assign rfl) ?_
        refine l_nil ?_
        refine c_ret ?_
        exact ⟨ret_bool rfl hres.symm, hE⟩
      · have hr30 := hb
        have hall2 : ∀ j : Nat, j < k + 1 → fat a j = fat b j := fun j hj => by
          rcases Nat.lt_or_eq_of_le (Nat.le_of_lt_succ hj) with h | rfl
          · exact hall j h
          · have h := hr30
            rw [Bool.not_eq_false'] at h
            exact of_decide_eq_true h
        refine c_skip ?_
     
        refine c_ops ?_
        refine l_val rfl rfl rfl (r_add rfl rfl rfl) ?_
        refine l_val rfl rfl rfl (r_move rfl) ?_
        refine l_nil ?_
        refine ⟨by repeat (first | exact Agree.over _ _ _ | exact Agree.refl _ _ | (refine Agree.puto ?_ _ _ rfl) | (refine Agree.put ?_ _ _ rfl) | (refine Agree.sub ?_ rfl)), ?_⟩
        exact ⟨a.length - (k + 1), by omega, k + 1, by omega, rfl, by show Value.int .i64 (IntKind.i64.wrap ((k : Int) + 1)) = _; rw [wrap_succ hkn ha.max], hall2, hE⟩
    · have hr18 := hb
      replace hb := of_decide_eq_false hb
      have hres : decide (a = b) = true := decide_eq_true (eq_of_fat hlen (fun j hj => hall j (by omega)))
      refine c_exit ?_
      refine c_seq ?_
   
      refine c_ops ?_
      refine l_val rfl rfl rfl (r_assign rfl) ?_
      refine l_nil ?_
      refine c_ret ?_
      exact ⟨ret_bool rfl hres.symm, hE⟩
theorem Same_calls (w0 : World) (A : Option Addr) (c : Nat) (a : List Fact) (ha : FactsAt w0 A c a) (B : Option Addr) (d : Nat) (b : List Fact) (hb' : FactsAt w0 B d b) :
    Calls Tryz.prog 22 [.slice A a.length c, .slice B b.length d].toArray w0 fun en w' => en = .returned (.bool (decide (a = b))) ∧ Ext0 w0 w' := by
  have hE : Ext0 w0 w0 := Ext.refl _ _
  refine calls [4] Tryz.func22 rfl rfl rfl rfl ?_
  refine c_seq ?_
  refine c_ops ?_
  refine l_val rfl rfl rfl (r_assign rfl) ?_
  refine l_nil ?_
  refine c_seq ?_
  refine c_ops ?_
  refine l_val rfl rfl rfl (r_move rfl) ?_
  refine l_val rfl rfl rfl (r_move rfl) ?_
  refine l_by rfl rfl rfl (r_call rfl rfl Tryz.func48 rfl rfl) (EqualFunc_fact _ A c a (ha.keep RFact.kept (Ext0.cells hE)) B d b (hb'.keep RFact.kept (Ext0.cells hE))) ?_
  rintro _ w ⟨rfl, hX⟩
  replace hE := hE.trans hX
  refine ⟨_, rfl, ?_⟩
  refine l_val rfl rfl rfl (r_assign rfl) ?_
  refine l_nil ?_
  refine c_ret ?_
  exact ⟨rfl, hE⟩
end Go.Proofs.YtndophlnapjkhaaGreatDoor.Vc
namespace Go.Proofs.YtndophlnapjkhaaGreatDoor.Vc
open Go Go.RowKit
set_option linter.unusedVariables false
theorem fill_int1 (x : Int) : Instr.fill (fun i => some (i * 1, 1)) ((List.range (1 * 1)).map ((Value.int .i64 0).cells[· % (Value.int .i64 0).cells.size]!)).toArray [(0, .int .i64 x)] = some #[.int .i64 x] := by rfl
structure QAt (cur : Array Value) (off cap : Nat) (l : List Int) : Prop where
  fit : off + cap ≤ cur.size
  le : l.length ≤ cap
  at_ : ∀ (i : Nat) x, l[i]? = some x → cur[off + i]? = some (.int .i64 x)
theorem QAt.sl {w : World} {b : Nat} {cur : Array Value} {t : TypeId} {off cap : Nat} {l : List Int} (h : QAt cur off cap l) (hb : w.heap[b]? = some (.cells cur t (0, 0))) (hm : l.length ≤ 9223372036854775807) : Ints w (some ⟨b, off, none⟩) cap l :=
  ⟨rfl, h.le, hm, fun _ => rfl, fun i x hi => ⟨[.int .i64 x], rfl, rfl, fun j v hj => by
    cases j with
    | zero =>
      cases hj
      rw [show (adr (some (⟨b, off, none⟩ : Addr))) = ⟨b, off, none⟩ from rfl, blk_add, blk_cell hb]
      simpa using h.at_ i x hi
    | succ j => simp at hj⟩⟩
theorem QAt.tail {cur : Array Value} {off cap : Nat} {x : Int} {l : List Int} (h : QAt cur off cap (x :: l)) : QAt cur (off + 1) (cap - 1) l := by
  have h1 := h.le
  have h2 := h.fit
  simp only [List.length_cons] at h1
  refine ⟨by omega, by omega, fun i y hi => ?_⟩
  have := h.at_ (i + 1) y (by simpa using hi)
  rwa [show off + 1 + i = off + (i + 1) by omega]
section
variable {P : Program} {w w0 : World} {ρ : Operand → Value} {o : Oper} {S : Nat → Prop} {L : List Res}
theorem n_push {x y : Operand} {t el : TypeId} {b off cap d c : Nat} {cur : Array Value} {l : List Int} {v : Int} (i : Nat) (h : o.op = .call { callee := .builtin .append, args := #[x, y], argTypes := #[t, t] })
    (hu : P.underlying t = some (.slice el)) (hinfo : (P.info? el).map (fun i => (i.zero, i.size, i.bytes)) = some (some (.int .i64 0), 1, 8)) (hx : ρ x = .slice (some ⟨b, off, none⟩) l.length cap) (hy : ρ y = .slice (some ⟨d, 0, none⟩) 1 c)
    (hL : Has w L) (hE : Ext S w0 w) (hi : L[i]? = some (.blk b (.cells cur el (0, 0)))) (hq : QAt cur off cap l) (hd : w.cell? ⟨d, 0, none⟩ = some (.int .i64 v)) (hS : b < w0.heap.size → S b) (hbig : l.length ≤ 1000000000000) :
    ∃ v' w', (execOp ρ o).run P w = .ok (.value v') w' ∧ ∃ b' off' cap' cur', v' = .slice (some ⟨b', off', none⟩) (l.length + 1) cap' ∧ QAt cur' off' cap' (l ++ [v]) ∧ Has w' (L.set i (.blk b' (.cells cur' el (0, 0)))) ∧ Ext S w0 w' ∧ (b' < w0.heap.size → S b') := by
  obtain ⟨i0, hinf, hzz⟩ := Option.map_eq_some_iff.1 hinfo
  simp only [Prod.mk.injEq] at hzz
  obtain ⟨hz0, hz1, hz2⟩ := hzz
  have hb := hL.get i hi
  have hlt : b < w.heap.size := (Array.getElem?_eq_some_iff.1 hb).1
  have hnews : ∀ j u, ([.int .i64 v] : List Value)[j]? = some u → w.cell? ((⟨d, 0, none⟩ : Addr).add j) = some u := fun j u hj => by
    cases j with
    | zero => cases hj; rw [blk_add]; exact hd
    | succ j => simp at hj
  have hfit := hq.fit
  by_cases hr : l.length + 1 ≤ cap
  · have hat : off + l.length < cur.size := by omega
    have hfz : w.frozen? ⟨b, off + l.length * 1, none⟩ = false := by
      simp [World.frozen?, hb]
    have hrun := run_append_room_cells (P := P) w t o.type el i0 hu hinf b off l.length cap ⟨d, 0, none⟩ 1 c [.int .i64 v] (by rw [hz1]; rfl) hnews (by intro u hu; rw [List.mem_singleton] at hu; rw [hu]; rfl) hr
      (fun j hj => by
        have : j = 0 := by simpa using hj
        subst this
        rw [hz1, Nat.mul_one, Nat.add_zero, blk_cell hb]
        simp [hat])
      (fun j hj => by
        have : j = 0 := by simpa using hj
        subst this
        rw [hz1]
        exact hfz)
    have hset : (w.setCells b (off + l.length * i0.size) [.int .i64 v]) = w.setCell ⟨b, off + l.length, none⟩ (.int .i64 v) := by
      rw [hz1, Nat.mul_one]
      rfl
    rw [hset] at hrun
    have hb' : (w.setCell ⟨b, off + l.length, none⟩ (.int .i64 v)).heap[b]? = some (.cells (cur.setIfInBounds (off + l.length) (.int .i64 v)) el (0, 0)) := by simp [World.setCell, Array.getElem?_modify, hb]
    have hk : ∀ k, k ≠ b → (w.setCell ⟨b, off + l.length, none⟩ (.int .i64 v)).heap[k]? = w.heap[k]? := fun k hk => Below.heap_setCell _ _ _ _ hk
    refine ⟨_, _, by simp [execOp, h, resolve, invoke, builtin, hx, hy, hrun], b, off, cap, cur.setIfInBounds (off + l.length) (.int .i64 v), rfl, ⟨by simpa using hfit, by simpa using hr, fun j u hj => ?_⟩, hL.setAt (r' := .blk b _) i hi hb' (fun c hc => .inl hc) (fun k _ hne => hk k (fun e => hne (by rw [e]; rfl))), hE.set b _ _ hS, hS⟩
    rcases Nat.lt_or_ge j l.length with hj1 | hj1
    · rw [List.getElem?_append_left hj1] at hj
      rw [Array.getElem?_setIfInBounds_ne (by omega)]
      exact hq.at_ j u hj
    · rw [List.getElem?_append_right hj1] at hj
      have h0 : j = l.length := by
        have := (List.getElem?_eq_some_iff.1 hj).1
        simp at this
        omega
      subst h0
      simp at hj
      subst hj
      simp [hat]
  · obtain ⟨v', w', hrun, hown, hg⟩ := run_append_arg_grows (P := P) w t o.type el i0 (.int .i64 0) 1 8 hu hinf hz0 hz1 hz2 rfl (by decide) ⟨b, off, none⟩ l.length cap (l.map (Value.int .i64)) (by simp) (fun j u hj => by
      rw [List.getElem?_map, Option.map_eq_some_iff] at hj
      obtain ⟨x, hx1, rfl⟩ := hj
      rw [blk_add, blk_cell hb]
      exact hq.at_ j x hx1) ⟨d, 0, none⟩ 1 c [.int .i64 v] rfl hnews (by omega) (by unfold maxLen; omega) (by omega)
    have he := ext0_grown hg
    rcases hown.2 with ⟨rfl, h0⟩ | ⟨g, cap', cur', rfl, hgb, hh, hn, hm, hsz, htake⟩
    · omega
    · refine ⟨_, w', by simp [execOp, h, resolve, invoke, builtin, hx, hy, hrun], g, 0, cap', cur', rfl, ⟨by omega, by simpa using hn, fun j u hj => ?_⟩, hL.setAt (r' := .blk g _) i hi hh (fun c hc => .inr (by simp [Res.foot] at hc; omega)) (fun k hk _ => he.block k hk (fun hf => hf)), hE.step0 he, fun hlt => absurd hlt (by have := hE.size; omega)⟩
      have hjl : j < l.length + 1 := by have := (List.getElem?_eq_some_iff.1 hj).1; simpa using this
      have h1 : (l.map (Value.int .i64) ++ [.int .i64 v])[j]? = some (.int .i64 u) := by
        have : l.map (Value.int .i64) ++ [.int .i64 v] = (l ++ [v]).map (Value.int .i64) := by simp
        rw [this, List.getElem?_map, hj]
        rfl
      rw [← htake, List.getElem?_take] at h1
      split at h1
      · rw [Nat.zero_add]
        simpa using h1
      · cases h1
end
section
variable {P : Program} {w : World} {ρ : Operand → Value} {o : Oper}
theorem n_pop {x i : Operand} {t el : TypeId} {b off cap : Nat} {cur : Array Value} {h0 : Int} {q : List Int} {k : IntKind} (h : o.op = .slice t x (some i) none none) (hu : P.underlying t = some (.slice el)) (hs : Sized P el 1) (hx : ρ x = .slice (some ⟨b, off, none⟩) (h0 :: q).length cap) (hi : ρ i = .int k 1) (hq : QAt cur off cap (h0 :: q)) :
    ∃ v w1, (execOp ρ o).run P w = .ok (.value v) w1 ∧ ∃ off', v = .slice (some ⟨b, off', none⟩) q.length (cap - 1) ∧ QAt cur off' (cap - 1) q ∧ w1 = w := by
  have hle := hq.le
  simp only [List.length_cons] at hle
  have hr := r_slice_from (P := P) (w := w) (ρ := ρ) (o := o) h hu hs hx hi (by decide) (by simp only [List.length_cons]; omega)
  refine ⟨_, _, hr, ?_⟩
  by_cases hc : cap = (1 : Int).toNat
  · rw [if_pos hc]
    have h1 : q.length = 0 := by simp at hc; omega
    have h2 : q = [] := List.eq_nil_of_length_eq_zero h1
    subst h2
    have hf := hq.fit
    exact ⟨off, rfl, ⟨by omega, by simp, fun i x hi => by simp at hi⟩, rfl⟩
  · rw [if_neg hc]
    exact ⟨off + 1, rfl, hq.tail, rfl⟩
end
section
variable {κ ν : Type} [DecidableEq κ] {P : Program} {w : World} {ρ : Operand → Value} {o : Oper} {kt et t : TypeId} {enc : κ → Value} {venc : ν → Value} {m : List (κ × ν)} {b : Nat}
theorem r_mapInsert {x y z : Operand} {k : κ} {v : ν} {S : Nat → Prop} {w0 : World} {L : List Res} (i : Nat) (h : o.op = .insert t x y z) (hu : P.underlying t = some (.map kt et)) (K : KeyLaw P kt enc) (hx : ρ x = .map (some b)) (hy : ρ y = enc k) (hz : ρ z = venc v)
    (hL : Has w L) (hE : Ext S w0 w) (hi : L[i]? = some (.blk b (mapObj enc venc m))) (hS : b < w0.heap.size → S b) :
    ∃ w', (execOp ρ o).run P w = .ok .skip w' ∧ Has w' (L.set i (.blk b (mapObj enc venc (setM m k v)))) ∧ Ext S w0 w' ∧ w'.heap.size = w.heap.size ∧ (∀ k, k ≠ b → w'.heap[k]? = w.heap[k]?) := by
  have h2 := r_mapUpdate (o := { o with op := .mapUpdate t x y z }) (P := P) (w := w) (ρ := ρ) (x := x) (y := y) (z := z) (k := k) (v := v) i rfl hu K hx hy hz hL hE hi hS
  have h3 : execOp ρ o = execOp ρ { o with op := .mapUpdate t x y z } := by simp [execOp, h]
  rw [h3]
  exact h2
end
end Go.Proofs.YtndophlnapjkhaaGreatDoor.Vc
namespace Go.Proofs.YtndophlnapjkhaaGreatDoor.Vc
open Go Go.RowKit
set_option linter.unusedVariables false
inductive Reach (g : List GNode) (l : List Fact) (k : Int) : Int → Prop
  | refl : Reach g l k k
  | step {i j : Int} (h : Reach g l k i) (hj : j ∈ onF g (fat l i)) : Reach g l k j
def dynB (g : List GNode) (n : Int) : Bool := decide ((gat g n).kind = 1)
def hereF (g : List GNode) (l : List Fact) (i : Int) : Bool := dynB g (fat l i).a && !(membersG g (fat l i).b).any (dynB g)
structure BfsIn (g : List GNode) (l : List Fact) (k : Int) (m : List (Int × Int)) (q : List Int) (i0 : Option (Int × Nat)) : Prop where
  vals : ∀ i v, getM m i = some v → v = 1 ∧ 0 ≤ i ∧ i < l.length ∧ Reach g l k i
  start : getM m k ≠ none
  queue : ∀ i ∈ q, getM m i ≠ none
  done : ∀ i, getM m i ≠ none → i ∉ q → (∀ n, i0 ≠ some (i, n)) → hereF g l i = false ∧ ∀ j ∈ onF g (fat l i), getM m j ≠ none
  cur : ∀ i n, i0 = some (i, n) → getM m i ≠ none ∧ hereF g l i = false ∧ ∀ j ∈ (onF g (fat l i)).take n, getM m j ≠ none
section
variable {g : List GNode} {l : List Fact} {k : Int} {m : List (Int × Int)} {q : List Int}
theorem Bfs.begin (h0 : 0 ≤ k) (h1 : k < l.length) : BfsIn g l k [(k, 1)] [k] none := by
  have hg : ∀ i, getM [(k, (1 : Int))] i = if k = i then some 1 else none := fun i => by simp [getM]
  refine ⟨fun i v h => ?_, ?_, fun i hi => ?_, fun i hi hq _ => ?_, fun i n h => by cases h⟩
  · rw [hg] at h
    split at h
    · rename_i e
      subst e
      cases h
      exact ⟨rfl, h0, h1, .refl⟩
    · cases h
  · rw [hg, if_pos rfl]
    simp
  · rw [List.mem_singleton] at hi
    subst hi
    rw [hg, if_pos rfl]
    simp
  · rw [hg] at hi
    split at hi
    · rename_i e
      subst e
      exact absurd (List.mem_singleton.2 rfl) hq
    · exact absurd rfl hi
theorem BfsIn.pop {i : Int} (h : BfsIn g l k m (i :: q) none) (hn : hereF g l i = false) : BfsIn g l k m q (some (i, 0)) :=
  ⟨h.vals, h.start, fun j hj => h.queue j (List.mem_cons_of_mem _ hj), fun j hj hq hc => h.done j hj (fun hm => by
    rcases List.mem_cons.1 hm with rfl | hm
    · exact hc 0 rfl
    · exact hq hm) (fun n e => by cases e), fun j n e => by
    cases e
    exact ⟨h.queue i List.mem_cons_self, hn, fun j hj => by simp at hj⟩⟩
theorem known_setI {m : List (Int × Int)} {x i v : Int} (h : getM m i ≠ none) : getM (setM m x v) i ≠ none := by
  rw [getM_setM]
  split
  · simp
  · exact h
theorem BfsIn.seen {i : Int} {n : Nat} {x : Int} (h : BfsIn g l k m q (some (i, n))) (hx : (onF g (fat l i))[n]? = some x) (hk : getM m x ≠ none) : BfsIn g l k m q (some (i, n + 1)) :=
  ⟨h.vals, h.start, h.queue, fun j hj hq hc => h.done j hj hq (fun n' e => by
    cases e
    exact hc (n + 1) rfl), fun j n' e => by
    cases e
    obtain ⟨h1, h2, h3⟩ := h.cur i n rfl
    refine ⟨h1, h2, fun j hj => ?_⟩
    rw [List.take_add_one, hx] at hj
    rcases List.mem_append.1 hj with hj | hj
    · exact h3 j hj
    · have : j = x := by simpa using hj
      subst this
      exact hk⟩
theorem BfsIn.new {i : Int} {n : Nat} {x : Int} (h : BfsIn g l k m q (some (i, n))) (hx : (onF g (fat l i))[n]? = some x) (hin : 0 ≤ x ∧ x < l.length) : BfsIn g l k (setM m x 1) (q ++ [x]) (some (i, n + 1)) := by
  have hcur := h.cur i n rfl
  have hreach : Reach g l k x := by
    cases hv : getM m i with
    | none => exact absurd hv hcur.1
    | some v => exact .step (h.vals i v hv).2.2.2 (List.mem_of_getElem? hx)
  refine ⟨fun j v hj => ?_, known_setI h.start, fun j hj => ?_, fun j hj hq hc => ?_, fun j n' e => ?_⟩
  · rw [getM_setM] at hj
    split at hj
    · rename_i e
      subst e
      cases hj
      exact ⟨rfl, hin.1, hin.2, hreach⟩
    · exact h.vals j v hj
  · rcases List.mem_append.1 hj with hj | hj
    · exact known_setI (h.queue j hj)
    · rw [List.mem_singleton] at hj
      subst hj
      rw [getM_setM, if_pos rfl]
      simp
  · have hjx : ¬ x = j := fun e => hq (by subst e; simp)
    rw [getM_setM, if_neg hjx] at hj
    obtain ⟨h1, h2⟩ := h.done j hj (fun hm => hq (List.mem_append_left _ hm)) (fun n' e => by
      cases e
      exact hc (n + 1) rfl)
    exact ⟨h1, fun y hy => known_setI (h2 y hy)⟩
  · cases e
    refine ⟨known_setI hcur.1, hcur.2.1, fun j hj => ?_⟩
    rw [List.take_add_one, hx] at hj
    rcases List.mem_append.1 hj with hj | hj
    · exact known_setI (hcur.2.2 j hj)
    · have : j = x := by simpa using hj
      subst this
      rw [getM_setM, if_pos rfl]
      simp
theorem BfsIn.finish {i : Int} (h : BfsIn g l k m q (some (i, (onF g (fat l i)).length))) : BfsIn g l k m q none :=
  ⟨h.vals, h.start, h.queue, fun j hj hq _ => by
    by_cases e : i = j
    · subst e
      obtain ⟨h1, h2, h3⟩ := h.cur i _ rfl
      exact ⟨h2, fun y hy => h3 y (by rw [List.take_length]; exact hy)⟩
    · exact h.done j hj hq (fun n e' => by cases e'; exact e rfl), fun j n e => by cases e⟩
theorem BfsIn.all (h : BfsIn g l k m [] none) {j : Int} (hj : Reach g l k j) : getM m j ≠ none ∧ hereF g l j = false := by
  have key : getM m j ≠ none := by
    induction hj with
    | refl => exact h.start
    | step _ hj ih => exact (h.done _ ih (by simp) (fun n e => by cases e)).2 _ hj
  exact ⟨key, (h.done j key (by simp) (fun n e => by cases e)).1⟩
def unseen (n : Nat) (m : List (Int × Int)) : Nat := ((List.range n).map fun (i : Nat) => if (getM m (i : Int)).isSome then 0 else 1).sum
theorem unseen_new {n : Nat} {x : Int} {m : List (Int × Int)} (hx : getM m x = none) (h0 : 0 ≤ x) (h1 : x < n) : unseen n (setM m x 1) < unseen n m := by
  refine sum_lt _ _ _ (fun i _ => ?_) ⟨x.toNat, List.mem_range.2 (by omega), ?_⟩
  · rw [getM_setM]
    split <;> simp
  · rw [Int.toNat_of_nonneg h0, getM_setM, if_pos rfl, hx]
    simp
end
end Go.Proofs.YtndophlnapjkhaaGreatDoor.Vc
namespace Go.Proofs.YtndophlnapjkhaaGreatDoor.Vc
open Go Go.RowKit
set_option linter.unusedVariables false
set_option linter.unusedSimpArgs false
def firstP (g : List GNode) (p : Int × Int) : Fact := ⟨p.1, p.2, if (gat g p.1).kind = 8 then [] else [pickX g false (mayX g false) p.1 p.2]⟩
def onP (g : List GNode) (p : Int × Int) : FP := (byF g (firstP g p)).1
def doneP (g : List GNode) (p : Int × Int) (ws : List Int) : Fact := ⟨p.1, p.2, (firstP g p).why ++ ws⟩
def atP (p : Int × Int) : Nat → List Fact → Option Nat
  | _, [] => none
  | k, f :: r => if (f.a, f.b) = p then some k else atP p (k + 1) r
def findsF (F : Int × Int → List Fact → Int × List Fact) : FP → List Fact → List Int × List Fact
  | [], l => ([], l)
  | q :: qs, l => ((F q l).1 :: (findsF F qs (F q l).2).1, (findsF F qs (F q l).2).2)
def findF (g : List GNode) : Nat → Int × Int → List Fact → Int × List Fact
  | 0, _, l => (0, l)
  | k + 1, p, l => match atP p 0 l with
    | some i => ((i : Int), l)
    | none => ((l.length : Int), (findsF (findF g k) (onP g p) (l ++ [firstP g p])).2.set l.length (doneP g p (findsF (findF g k) (onP g p) (l ++ [firstP g p])).1))
def prs (l : List Fact) : FP := l.map fun f => (f.a, f.b)
theorem prs_append (a b : List Fact) : prs (a ++ b) = prs a ++ prs b := by simp [prs]
theorem prs_length (a : List Fact) : (prs a).length = a.length := by simp [prs]
theorem atP_some {p : Int × Int} : ∀ (l : List Fact) (k i : Nat), atP p k l = some i → k ≤ i ∧ (prs l)[i - k]? = some p
  | [], k, i, h => by simp [atP] at h
  | f :: r, k, i, h => by
    unfold atP at h
    split at h
    · rename_i e
      cases h
      simp [prs, e]
    · obtain ⟨h1, h2⟩ := atP_some r (k + 1) i h
      refine ⟨by omega, ?_⟩
      rw [show i - k = (i - (k + 1)) + 1 by omega]
      simpa [prs] using h2
theorem atP_none {p : Int × Int} : ∀ (l : List Fact) (k : Nat), atP p k l = none ↔ p ∉ prs l
  | [], k => by simp [atP, prs]
  | f :: r, k => by
    unfold atP
    split
    · rename_i e
      simp [prs, e]
    · rename_i e
      rw [atP_none r (k + 1)]
      have : ¬ p = (f.a, f.b) := fun h => e h.symm
      simp [prs, this]
theorem atP_append {p : Int × Int} : ∀ (l r : List Fact) (k : Nat), atP p k (l ++ r) = match atP p k l with | some i => some i | none => atP p (k + l.length) r
  | [], r, k => rfl
  | f :: l, r, k => by
    simp only [List.cons_append, atP]
    split
    · rfl
    · rw [atP_append l r (k + 1), List.length_cons, show k + 1 + l.length = k + (l.length + 1) by omega]
theorem atP_congr {p : Int × Int} : ∀ (l r : List Fact) (k : Nat), prs l = prs r → atP p k l = atP p k r
  | [], [], k, h => rfl
  | [], _ :: _, k, h => by simp [prs] at h
  | _ :: _, [], k, h => by simp [prs] at h
  | f :: l, f' :: r, k, h => by
    simp only [prs, List.map_cons, List.cons.injEq] at h
    simp only [atP, h.1, atP_congr l r (k + 1) h.2]
theorem findsF_append (F : Int × Int → List Fact → Int × List Fact) : ∀ (xs ys : FP) (l : List Fact), findsF F (xs ++ ys) l = ((findsF F xs l).1 ++ (findsF F ys (findsF F xs l).2).1, (findsF F ys (findsF F xs l).2).2)
  | [], ys, l => rfl
  | x :: xs, ys, l => by simp only [List.cons_append, findsF, findsF_append F xs ys]
theorem findsF_snoc (F : Int × Int → List Fact → Int × List Fact) (xs : FP) (y : Int × Int) (l : List Fact) : findsF F (xs ++ [y]) l = ((findsF F xs l).1 ++ [(F y (findsF F xs l).2).1], (F y (findsF F xs l).2).2) := by
  rw [findsF_append]
  rfl
theorem findX_get {α : Type} {p : α → Bool} : ∀ (l : List α) (k i : Nat), findX p k l = some i → k ≤ i ∧ ∃ x, l[i - k]? = some x ∧ p x = true
  | [], k, i, h => by simp [findX] at h
  | x :: r, k, i, h => by
    unfold findX at h
    split at h
    · rename_i e
      cases h
      exact ⟨Nat.le_refl _, x, by simp, e⟩
    · obtain ⟨h1, y, h2, h3⟩ := findX_get r (k + 1) i h
      refine ⟨by omega, y, ?_, h3⟩
      rw [show i - k = (i - (k + 1)) + 1 by omega]
      simpa using h2
section
variable {g : List GNode} {p : Int × Int}
theorem firstP_8 (h8 : (gat g p.1).kind = 8) : firstP g p = ⟨p.1, p.2, []⟩ := by unfold firstP; rw [if_pos h8]
theorem firstP_no (h8 : (gat g p.1).kind ≠ 8) : firstP g p = ⟨p.1, p.2, [pickX g false (mayX g false) p.1 p.2]⟩ := by unfold firstP; rw [if_neg h8]
theorem doneP_8 (ws : List Int) (h8 : (gat g p.1).kind = 8) : doneP g p ws = ⟨p.1, p.2, ws⟩ := by unfold doneP; rw [firstP_8 h8]; rfl
theorem doneP_no (ws : List Int) (h8 : (gat g p.1).kind ≠ 8) : doneP g p ws = ⟨p.1, p.2, pickX g false (mayX g false) p.1 p.2 :: ws⟩ := by unfold doneP; rw [firstP_no h8]; rfl
theorem doneP_by (ws : List Int) : byF g (doneP g p ws) = byF g (firstP g p) := by
  by_cases h8 : (gat g p.1).kind = 8
  · rw [doneP_8 ws h8, firstP_8 h8]
    simp only [byF, unionF, h8, if_true]
  · rw [doneP_no ws h8, firstP_no h8]
    rfl
theorem doneP_on (ws : List Int) : onF g (doneP g p ws) = ws := by
  by_cases h8 : (gat g p.1).kind = 8
  · rw [doneP_8 ws h8]; simp only [onF, h8, if_true]
  · rw [doneP_no ws h8]; simp only [onF, h8, if_false]; rfl
theorem firstP_on : onF g (firstP g p) = [] := by
  have := doneP_on (g := g) (p := p) []
  rwa [show doneP g p [] = firstP g p by unfold doneP; simp [firstP]] at this
theorem gat_inn {n : Int} (h0 : 0 ≤ n) (h1 : n < g.length) : gat g n ∈ g := by
  have hl : n.toNat < g.length := by omega
  unfold gat
  rw [List.getD_eq_getElem?_getD, List.getElem?_eq_getElem hl]
  exact List.getElem_mem hl
theorem plainOn_rec {X : Int × Int → Bool} {s : GNode} (hs : ∀ k ∈ s.l, 0 ≤ k ∧ k < (g.length : Int)) (hsl : s.l.length = s.keys.length) : ∀ (items : List (ByteArray × Int)), (∀ x ∈ items, 0 ≤ x.2 ∧ x.2 < (g.length : Int)) → recX X s items = true → ∃ on, plainOn s items = some on ∧ on.length = items.length ∧ ∀ q ∈ on, InG g.length q ∧ X q = true
  | [], _, _ => ⟨[], rfl, rfl, fun q h => by simp at h⟩
  | (key, tl) :: r, hi, h => by
    unfold recX at h
    split at h
    · cases h
    · rename_i h0
      rw [Bool.and_eq_true] at h
      obtain ⟨on, h1, h2, h3⟩ := plainOn_rec hs hsl r (fun x hx => hi x (List.mem_cons_of_mem _ hx)) h.2
      have hlt := idxS_lt s.keys key
      have hk := hs (iat s.l (idxV (idxS s.keys key))) (by
        have := iat_nat (l := s.l) (k := (idxV (idxS s.keys key)).toNat) (by omega)
        rw [Int.toNat_of_nonneg (by omega)] at this
        exact List.mem_of_getElem? this)
      have ht := hi _ List.mem_cons_self
      refine ⟨(iat s.l (idxV (idxS s.keys key)), tl) :: on, by unfold plainOn; rw [if_neg h0, h1]; rfl, by simp [h2], fun q hq => ?_⟩
      rcases List.mem_cons.1 hq with rfl | hq
      · exact ⟨⟨hk.1, hk.2, ht.1, ht.2⟩, h.1⟩
      · exact h3 q hq
structure FoundP (g : List GNode) (p : Int × Int) : Prop where
  ok : FactOk g (firstP g p)
  yes : (byF g (firstP g p)).2 = true
  inn : ∀ q ∈ onP g p, InG g.length q ∧ mayX g false q = true
  many : ∀ ws : List Int, ws.length = (onP g p).length → manyF g (doneP g p ws) = some ((doneP g p ws).why.length : Int)
theorem found_p (hok : GraphOk g) (hp : InG g.length p) (hm : mayX g false p = true) : FoundP g p := by
  obtain ⟨ha0, ha1, hb0, hb1⟩ := hp
  have hfix := may_fix (st := false) hok (p := p) ⟨ha0, ha1, hb0, hb1⟩
  rw [hm] at hfix
  have hh := (holdsX_iff p).1 hfix.symm
  have hsg := gat_inn ha0 ha1
  by_cases h8 : (gat g p.1).kind = 8
  · have hby : byF g (firstP g p) = ((gat g p.1).l.map (fun m => (m, p.2)), true) := by
      rw [firstP_8 h8]
      simp only [byF, unionF, h8, if_true]
    have hon : onP g p = (gat g p.1).l.map (fun m => (m, p.2)) := by unfold onP; rw [hby]
    have hmem : membersG g p.1 = (gat g p.1).l := by unfold membersG; rw [if_neg (by omega), if_pos h8]
    rw [hmem] at hh
    have hl8 : ∀ k ∈ (gat g p.1).l, (gat g k).kind ≠ 8 := by
      rcases hok.is hsg with ⟨h, _⟩ | ⟨h, _⟩ | ⟨h, _⟩ | ⟨h, hl, _⟩ | ⟨h, _⟩
      · omega
      · omega
      · omega
      · exact hl
      · omega
    refine ⟨?_, by rw [hby], fun q hq => ?_, fun ws hws => ?_⟩
    · rw [firstP_8 h8]
      exact ⟨⟨ha0, ha1⟩, ⟨hb0, hb1⟩, fun h => absurd h8 h, fun h => absurd h8 h⟩
    · rw [hon, List.mem_map] at hq
      obtain ⟨m, hm1, rfl⟩ := hq
      have hi := hok.inn hsg hm1
      have hin : InG g.length (m, p.2) := ⟨hi.1, hi.2, hb0, hb1⟩
      refine ⟨hin, ?_⟩
      rw [may_fix hok hin, holdsX_iff]
      intro s hs
      rw [membersG_one hi.1 hi.2 (hl8 m hm1), List.mem_singleton] at hs
      subst hs
      exact hh s hm1
    · rw [doneP_8 ws h8]
      rw [hon, List.length_map] at hws
      simp only [manyF, h8, if_true, hws]
  · have hpk := hh p.1 (by rw [membersG_one ha0 ha1 h8]; exact List.mem_singleton.2 rfl)
    have hside := SideOk.of hok hsg h8
    have hf := firstP_no (p := p) h8
    have hd := fun ws => doneP_no (p := p) ws h8
    have huni : ∀ f : Fact, f.a = p.1 → (unionF g f).1 = false := fun f hfa => by simp only [unionF, hfa, h8, if_false]
    cases hx : findX (fun k => doesX false (mayX g false) (gat g p.1) (gat g k)) 0 (membersG g p.2) with
    | none =>
      have hpv : pickX g false (mayX g false) p.1 p.2 = if (gat g p.1).kind = 9 then (if mayX g false (iat (gat g p.1).l 0, p.2) then -1 else -2) else -2 := by unfold pickX; rw [hx]
      have h9 : (gat g p.1).kind = 9 := by
        by_cases h9 : (gat g p.1).kind = 9
        · exact h9
        · rw [hpv, if_neg h9] at hpk; exact absurd rfl hpk
      have hX : mayX g false (iat (gat g p.1).l 0, p.2) = true := by
        cases hX : mayX g false (iat (gat g p.1).l 0, p.2) with
        | true => rfl
        | false => rw [hpv, if_pos h9, hX] at hpk; exact absurd rfl hpk
      have hpv1 : pickX g false (mayX g false) p.1 p.2 = -1 := by rw [hpv, if_pos h9, hX]; rfl
      have hby : byF g (firstP g p) = ([(iat (gat g p.1).l 0, p.2)], true) := by
        rw [hf, hpv1]
        unfold byF
        rw [huni _ rfl]
        simp [boundF, h9, iat]
      have hon : onP g p = [(iat (gat g p.1).l 0, p.2)] := by unfold onP; rw [hby]
      have hfst := hside.first h9
      refine ⟨?_, by rw [hby], fun q hq => ?_, fun ws hws => ?_⟩
      · rw [hf, hpv1]
        exact ⟨⟨ha0, ha1⟩, ⟨hb0, hb1⟩, fun _ => by simp, fun _ h => absurd ⟨h9, rfl⟩ h⟩
      · rw [hon, List.mem_singleton] at hq
        subst hq
        exact ⟨⟨hfst.1, hfst.2, hb0, hb1⟩, hX⟩
      · rw [hd, hpv1]
        rw [hon] at hws
        simp only [manyF, h8, if_false]
        simp [h9, iat, hws]
    | some i =>
      obtain ⟨_, x, hx1, hx2⟩ := findX_get _ 0 i hx
      rw [Nat.sub_zero] at hx1
      have hpv : pickX g false (mayX g false) p.1 p.2 = (i : Int) := by unfold pickX; rw [hx]
      have hil : i < (membersG g p.2).length := (List.getElem?_eq_some_iff.1 hx1).1
      have hch : ∀ ws : List Int, chosenF g ⟨p.1, p.2, (i : Int) :: ws⟩ = gat g x := fun ws => by
        have := iat_nat (l := membersG g p.2) (k := i) hil
        rw [hx1] at this
        injection this with this
        simp only [chosenF]
        rw [show iat ((i : Int) :: ws) 0 = (i : Int) from rfl, ← this]
      have hxin := hok.members (List.mem_of_getElem? hx1)
      have htg := gat_inn hxin.1 hxin.2.1
      have hts := SideOk.of hok htg hxin.2.2
      have hfo : FactOk g (firstP g p) := by
        rw [hf, hpv]
        refine ⟨⟨ha0, ha1⟩, ⟨hb0, hb1⟩, fun _ => by simp, fun _ _ => ?_⟩
        show 0 ≤ (i : Int) ∧ (i : Int) < ((membersG g p.2).length : Int)
        omega
      have hnb : ∀ ws : List Int, (boundF g ⟨p.1, p.2, (i : Int) :: ws⟩).1 = false := fun ws => by
        have : ¬ ((i : Int) = -1) := by omega
        simp [boundF, iat, this]
      have hmany0 : ∀ ws : List Int, manyF g ⟨p.1, p.2, (i : Int) :: ws⟩ = if (gat g p.1).kind = 7 ∧ (gat g x).kind = 7 then some (1 + ((gat g x).keys.length : Int)) else if (gat g p.1).kind = 9 ∧ (gat g x).kind = 9 then some 2 else some 1 := fun ws => by
        have h1 : ¬ ((i : Int) = -1) := by omega
        have h2 : ¬ ((i : Int) < 0 ∨ ((membersG g p.2).length : Int) ≤ (i : Int)) := by omega
        simp only [manyF, h8, if_false, List.length_cons, Nat.succ_ne_zero, show iat ((i : Int) :: ws) 0 = (i : Int) from rfl, h1, and_false, h2, hch]
      by_cases hdyn : (gat g p.1).kind = 1 ∨ (gat g x).kind = 1
      · have hby : byF g (firstP g p) = ([], true) := by
          rw [hf, hpv]
          unfold byF
          rw [huni _ rfl, hnb]
          simp [looseF, hch, hdyn]
        have hon : onP g p = [] := by unfold onP; rw [hby]
        refine ⟨hfo, by rw [hby], fun q hq => by rw [hon] at hq; simp at hq, fun ws hws => ?_⟩
        rw [hon] at hws
        rw [hd, hpv, hmany0, if_neg (by omega), if_neg (by omega)]
        simp [hws]
      · have hdo : doesX false (mayX g false) (gat g p.1) (gat g x) = true := hx2
        unfold doesX at hdo
        rw [if_neg hdyn] at hdo
        by_cases hk : (gat g p.1).kind = (gat g x).kind
        · rw [if_pos hk] at hdo
          have hby : byF g (firstP g p) = plainR (gat g p.1) (gat g x) := by
            rw [hf, hpv]
            unfold byF
            rw [huni _ rfl, hnb]
            simp [looseF, hch, hdyn, plainF]
          have hisS := hok.is hsg
          have hisT := hok.is htg
          have hnameNum : (gat g p.1).name = (gat g x).name ∧ (gat g p.1).num = (gat g x).num ∧ ((gat g x).kind ≠ 7 → (gat g x).keys = []) := by
            unfold ruleX at hdo
            rcases hisS with ⟨h, hl, hkk, hn, hm'⟩ | ⟨h, hl, hkk, hm'⟩ | ⟨h, hl, hr, hn, hm'⟩ | ⟨h, hl, h2, hd', hkk, hn, hm'⟩ | ⟨h, hl, hkk, hn⟩ <;> rcases hisT with ⟨h', gl, gk, gn, gm⟩ | ⟨h', gl, gk, gm⟩ | ⟨h', gl, gr, gn, gm⟩ | ⟨h', gl, g2, gd, gk, gn, gm⟩ | ⟨h', gl, gk, gn⟩ <;> first | omega | skip
            · exact ⟨by rw [hn, gn], by rw [hm', gm], fun _ => gk⟩
            · rw [if_pos h] at hdo
              exact ⟨of_decide_eq_true hdo, by rw [hm', gm], fun _ => gk⟩
            · exact ⟨by rw [hn, gn], by rw [hm', gm], fun hne => absurd h' hne⟩
            · rw [if_neg (by omega), if_neg (by omega), if_pos h] at hdo
              split at hdo
              · rename_i hnn
                exact ⟨by rw [hn, gn], hnn, fun _ => gk⟩
              · cases hdo
          have hodd : oddF (gat g p.1) (gat g x) = false := by simp [oddF, hk, hnameNum.1, hnameNum.2.1]
          by_cases h9 : (gat g p.1).kind = 9
          · have hon : plainR (gat g p.1) (gat g x) = ([(iat (gat g p.1).l 0, iat (gat g x).l 0)], true) := by
              unfold plainR
              rw [hodd, if_neg (by decide), if_pos h9]
            have honp : onP g p = [(iat (gat g p.1).l 0, iat (gat g x).l 0)] := by unfold onP; rw [hby, hon]
            have hfst := hside.first h9
            have hfst' := hts.first (by omega)
            unfold ruleX at hdo
            rw [if_neg (by omega), if_neg (by omega), if_pos h9] at hdo
            split at hdo
            · refine ⟨hfo, by rw [hby, hon], fun q hq => ?_, fun ws hws => ?_⟩
              · rw [honp, List.mem_singleton] at hq
                subst hq
                exact ⟨⟨hfst.1, hfst.2, hfst'.1, hfst'.2⟩, hdo⟩
              · rw [honp] at hws
                rw [hd, hpv, hmany0, if_neg (by omega), if_pos ⟨h9, by omega⟩]
                simp [hws]
            · cases hdo
          · by_cases h7 : (gat g p.1).kind = 7
            · unfold ruleX at hdo
              rw [if_neg (by omega), if_pos h7] at hdo
              have hlen := hts.rcd (by omega)
              obtain ⟨on, ho1, ho2, ho3⟩ := plainOn_rec hside.inn (hside.rcd h7) ((gat g x).keys.zip (gat g x).l) (fun y hy => hts.inn _ (List.of_mem_zip hy).2) hdo
              have hon : plainR (gat g p.1) (gat g x) = (on, true) := by
                unfold plainR
                rw [hodd, if_neg (by decide), if_neg h9, ho1]
              have honp : onP g p = on := by unfold onP; rw [hby, hon]
              refine ⟨hfo, by rw [hby, hon], fun q hq => ho3 q (by rwa [honp] at hq), fun ws hws => ?_⟩
              rw [honp, ho2, List.length_zip, hlen, Nat.min_self] at hws
              rw [hd, hpv, hmany0, if_pos ⟨h7, by omega⟩]
              simp [hws]
              omega
            · have hkeys := hnameNum.2.2 (by omega)
              have hon : plainR (gat g p.1) (gat g x) = ([], true) := by
                unfold plainR
                rw [hodd, if_neg (by decide), if_neg h9, hkeys]
                rfl
              have honp : onP g p = [] := by unfold onP; rw [hby, hon]
              refine ⟨hfo, by rw [hby, hon], fun q hq => by rw [honp] at hq; simp at hq, fun ws hws => ?_⟩
              rw [honp] at hws
              rw [hd, hpv, hmany0, if_neg (by omega), if_neg (by omega)]
              simp [hws]
        · rw [if_neg hk] at hdo
          cases hdo
end
end Go.Proofs.YtndophlnapjkhaaGreatDoor.Vc
namespace Go.Proofs.YtndophlnapjkhaaGreatDoor.Vc
open Go Go.RowKit
set_option linter.unusedVariables false
set_option linter.unusedSimpArgs false
section
variable {g : List GNode}
structure GoodL (g : List GNode) (l : List Fact) : Prop where
  nodup : (prs l).Nodup
  inn : ∀ p ∈ prs l, InG g.length p
theorem GoodL.nil : GoodL g [] := ⟨by simp [prs], by simp [prs]⟩
theorem GoodL.le {l : List Fact} (h : GoodL g l) : l.length ≤ g.length * g.length := by
  have := nodup_sub (allP g.length) (prs l) h.nodup (fun x hx => mem_allP (h.inn x hx))
  rwa [length_allP, prs_length] at this
theorem GoodL.snoc {l : List Fact} (h : GoodL g l) {f : Fact} (hn : (f.a, f.b) ∉ prs l) (hi : InG g.length (f.a, f.b)) : GoodL g (l ++ [f]) := by
  refine ⟨?_, fun p hp => ?_⟩
  · rw [prs_append, List.nodup_append]
    refine ⟨h.nodup, by simp [prs], ?_⟩
    rintro a ha b hb rfl
    have : a = (f.a, f.b) := by simpa [prs] using hb
    exact hn (this ▸ ha)
  · rw [prs_append, List.mem_append] at hp
    rcases hp with hp | hp
    · exact h.inn p hp
    · have : p = (f.a, f.b) := by simpa [prs] using hp
      rw [this]; exact hi
theorem GoodL.lt {l : List Fact} (h : GoodL g l) {p : Int × Int} (hn : p ∉ prs l) (hi : InG g.length p) : l.length < g.length * g.length := by
  have := (h.snoc (f := ⟨p.1, p.2, []⟩) hn hi).le
  simp at this
  omega
theorem GoodL.congr {l l' : List Fact} (h : GoodL g l) (e : prs l' = prs l) : GoodL g l' := ⟨by rw [e]; exact h.nodup, by rw [e]; exact h.inn⟩
structure DoneAt (g : List GNode) (P : FP) (f : Fact) : Prop where
  may : mayX g false (f.a, f.b) = true
  nums : ∃ ws : List Int, f = doneP g (f.a, f.b) ws ∧ ws.length = (onP g (f.a, f.b)).length ∧ ∀ (j : Nat) q, (onP g (f.a, f.b))[j]? = some q → ∃ k, ws[j]? = some k ∧ 0 ≤ k ∧ P[k.toNat]? = some q
theorem get_pre {α : Type} {P Q : List α} {i : Nat} {x : α} (h : P[i]? = some x) : (P ++ Q)[i]? = some x := by
  have := (List.getElem?_eq_some_iff.1 h).1
  rw [List.getElem?_append_left this]
  exact h
theorem DoneAt.more {P : FP} {f : Fact} (h : DoneAt g P f) (Q : FP) : DoneAt g (P ++ Q) f := by
  obtain ⟨ws, h1, h2, h3⟩ := h.nums
  exact ⟨h.may, ws, h1, h2, fun j q hq => let ⟨k, h4, h5, h6⟩ := h3 j q hq; ⟨k, h4, h5, get_pre h6⟩⟩
theorem Reach.trans {l : List Fact} {i j k : Int} (h : Reach g l i j) (h2 : Reach g l j k) : Reach g l i k := by
  induction h2 with
  | refl => exact h
  | step _ hj ih => exact .step ih hj
theorem Reach.mono {l l' : List Fact} (hs : ∀ n : Int, ∀ x ∈ onF g (fat l n), x ∈ onF g (fat l' n)) {i j : Int} (h : Reach g l i j) : Reach g l' i j := by
  induction h with
  | refl => exact .refl
  | step _ hj ih => exact .step ih (hs _ _ hj)
theorem fat_out {l : List Fact} {n : Int} (h : l.length ≤ n.toNat) : fat l n = Fact.nil := by
  unfold fat
  rw [List.getD_eq_getElem?_getD, List.getElem?_eq_none h]
  rfl
theorem onF_nil : onF g Fact.nil = [] := by
  unfold onF Fact.nil
  split <;> rfl
theorem sub_append (l r : List Fact) (n : Int) (x : Int) (hx : x ∈ onF g (fat l n)) : x ∈ onF g (fat (l ++ r) n) := by
  rcases Nat.lt_or_ge n.toNat l.length with h | h
  · have : fat (l ++ r) n = fat l n := by
      unfold fat
      rw [List.getD_eq_getElem?_getD, List.getD_eq_getElem?_getD, List.getElem?_append_left h]
    rw [this]; exact hx
  · rw [fat_out h, onF_nil] at hx
    simp at hx
theorem sub_set (l : List Fact) (i : Nat) (f : Fact) (h0 : onF g (fat l (i : Int)) = []) (n : Int) (x : Int) (hx : x ∈ onF g (fat l n)) : x ∈ onF g (fat (l.set i f) n) := by
  by_cases h : n.toNat = i
  · have : fat l n = fat l (i : Int) := by unfold fat; rw [h]; rfl
    rw [this, h0] at hx
    simp at hx
  · have : fat (l.set i f) n = fat l n := by
      unfold fat
      rw [List.getD_eq_getElem?_getD, List.getD_eq_getElem?_getD, List.getElem?_set_ne (fun e => h e.symm)]
    rw [this]; exact hx
structure OneIs (g : List GNode) (p : Int × Int) (l : List Fact) (r : Int × List Fact) : Prop where
  out : ∃ news, r.2 = l ++ news ∧ GoodL g r.2 ∧ 0 ≤ r.1 ∧ (prs r.2)[r.1.toNat]? = some p ∧ (∀ f ∈ news, DoneAt g (prs r.2) f) ∧ ∀ i : Nat, l.length ≤ i → i < r.2.length → Reach g r.2 r.1 i
structure AllIs (g : List GNode) (qs : FP) (l : List Fact) (r : List Int × List Fact) : Prop where
  out : ∃ news, r.2 = l ++ news ∧ GoodL g r.2 ∧ r.1.length = qs.length ∧ (∀ (j : Nat) q, qs[j]? = some q → ∃ k, r.1[j]? = some k ∧ 0 ≤ k ∧ (prs r.2)[k.toNat]? = some q) ∧ (∀ f ∈ news, DoneAt g (prs r.2) f) ∧ ∀ i : Nat, l.length ≤ i → i < r.2.length → ∃ k ∈ r.1, Reach g r.2 k i
theorem all_is {F : Int × Int → List Fact → Int × List Fact} {N : Nat} : ∀ (qs : FP) (l : List Fact), (∀ q ∈ qs, ∀ l', N ≤ l'.length → GoodL g l' → OneIs g q l' (F q l')) → N ≤ l.length → GoodL g l → AllIs g qs l (findsF F qs l)
  | [], l, _, _, hl => ⟨[], by simp [findsF], hl, rfl, fun j q h => by simp at h, fun f h => by simp at h, fun i h1 h2 => by simp [findsF] at h2; omega⟩
  | q :: qs, l, hF, hN, hl => by
    obtain ⟨n1, e1, g1, k1, a1, d1, r1⟩ := (hF q List.mem_cons_self l hN hl).out
    have hN2 : N ≤ (F q l).2.length := by rw [e1, List.length_append]; omega
    obtain ⟨n2, e2, g2, len2, a2, d2, r2⟩ := (all_is qs (F q l).2 (fun q' h => hF q' (List.mem_cons_of_mem _ h)) hN2 g1).out
    have hp : prs (findsF F qs (F q l).2).2 = prs (F q l).2 ++ prs n2 := by rw [e2, prs_append]
    refine ⟨n1 ++ n2, by simp only [findsF]; rw [e2, e1, List.append_assoc], g2, by simp [findsF, len2], fun j x hj => ?_, fun f hf => ?_, fun i h1 h2 => ?_⟩
    · cases j with
      | zero =>
        have : q = x := by simpa using hj
        subst this
        exact ⟨(F q l).1, rfl, k1, by simp only [findsF]; rw [hp]; exact get_pre a1⟩
      | succ j =>
        obtain ⟨k, h3, h4, h5⟩ := a2 j x (by simpa using hj)
        exact ⟨k, by simpa [findsF] using h3, h4, h5⟩
    · simp only [findsF]
      rcases List.mem_append.1 hf with hf | hf
      · rw [hp]; exact (d1 f hf).more _
      · exact d2 f hf
    · simp only [findsF] at h2 ⊢
      rcases Nat.lt_or_ge i (F q l).2.length with h3 | h3
      · refine ⟨(F q l).1, List.mem_cons_self, ?_⟩
        refine Reach.mono (fun n x hx => ?_) (r1 i h1 h3)
        rw [e2]
        exact sub_append _ _ n x hx
      · obtain ⟨k, hk1, hk2⟩ := r2 i h3 h2
        exact ⟨k, List.mem_cons_of_mem _ hk1, hk2⟩
theorem prs_set {l : List Fact} {i : Nat} {f : Fact} (h : (prs l)[i]? = some (f.a, f.b)) : prs (l.set i f) = prs l := by
  unfold prs at h ⊢
  rw [List.map_set]
  apply List.ext_getElem?
  intro j
  by_cases hj : i = j
  · subst hj
    rw [List.getElem?_set, if_pos rfl, h]
    have := (List.getElem?_eq_some_iff.1 h).1
    rw [if_pos (by simpa using this)]
  · rw [List.getElem?_set_ne hj]
theorem one_is (hok : GraphOk g) : ∀ (k : Nat) (p : Int × Int) (l : List Fact), GoodL g l → InG g.length p → mayX g false p = true → g.length * g.length + 1 ≤ k + l.length → OneIs g p l (findF g k p l)
  | 0, p, l, hl, hp, hm, hk => by have := hl.le; omega
  | k + 1, p, l, hl, hp, hm, hk => by
    unfold findF
    cases ha : atP p 0 l with
    | some i =>
      obtain ⟨_, h1⟩ := atP_some l 0 i ha
      exact ⟨[], by simp, hl, by simp, by simpa using h1, by simp, fun i h1 h2 => by simp at h2; omega⟩
    | none =>
      have hn := (atP_none l 0).1 ha
      have hfp : ((firstP g p).a, (firstP g p).b) = p := rfl
      have hl1 : GoodL g (l ++ [firstP g p]) := hl.snoc (by rw [hfp]; exact hn) (by rw [hfp]; exact hp)
      have hfnd := found_p hok hp hm
      obtain ⟨news, e, hg, len, hat, hd, hr⟩ := (all_is (F := findF g k) (N := l.length + 1) (onP g p) (l ++ [firstP g p]) (fun q hq l' hl' hgl => one_is hok k q l' hgl (hfnd.inn q hq).1 (hfnd.inn q hq).2 (by omega)) (by simp) hl1).out
      obtain ⟨R, hR⟩ : ∃ R, R = findsF (findF g k) (onP g p) (l ++ [firstP g p]) := ⟨_, rfl⟩
      rw [← hR] at e hg len hat hd hr ⊢
      simp only
      have hset : R.2.set l.length (doneP g p R.1) = l ++ (doneP g p R.1 :: news) := by
        rw [e, List.append_assoc, List.set_append_right _ _ (Nat.le_refl _), Nat.sub_self]
        rfl
      have hpk : (prs R.2)[l.length]? = some p := by
        rw [e, prs_append, prs_append, List.append_assoc, List.getElem?_append_right (by rw [prs_length]; exact Nat.le_refl _), prs_length, Nat.sub_self]
        rfl
      have hps : prs (R.2.set l.length (doneP g p R.1)) = prs R.2 := prs_set hpk
      have hlen : (R.2.set l.length (doneP g p R.1)).length = R.2.length := by simp
      have hRl : l.length < R.2.length := by rw [e]; simp
      have hfat : fat R.2 (l.length : Int) = firstP g p := by
        have := fat_nat hRl
        rw [e, List.append_assoc, List.getElem?_append_right (Nat.le_refl _), Nat.sub_self] at this
        rw [e, List.append_assoc]
        injection this with this
        exact this.symm
      have hfat2 : fat (R.2.set l.length (doneP g p R.1)) (l.length : Int) = doneP g p R.1 := by
        have := fat_nat (l := R.2.set l.length (doneP g p R.1)) (k := l.length) (by rw [hlen]; exact hRl)
        rw [List.getElem?_set, if_pos rfl, if_pos hRl] at this
        injection this with this
        exact this.symm
      refine ⟨doneP g p R.1 :: news, hset, hg.congr hps, by simp, by rw [hps]; simpa using hpk, fun f hf => ?_, fun i h1 h2 => ?_⟩
      · rw [hps]
        rcases List.mem_cons.1 hf with rfl | hf
        · exact ⟨hm, R.1, rfl, len, hat⟩
        · exact hd f hf
      · rw [hlen] at h2
        rcases Nat.lt_or_ge l.length i with h3 | h3
        · obtain ⟨k', hk1, hk2⟩ := hr i (by simp; omega) h2
          refine Reach.trans (.step .refl (j := k') ?_) (Reach.mono (fun n x hx => sub_set _ _ _ (by rw [hfat]; exact firstP_on) n x hx) hk2)
          rw [hfat2, doneP_on]
          exact hk1
        · have : i = l.length := by omega
          subst this
          exact .refl
def allF (g : List GNode) (qs : FP) : List Int × List Fact := findsF (findF g (g.length * g.length + 1)) qs []
theorem matchF_of {l : List Fact} : ∀ (ps : FP) (ks : List Int), (∀ (j : Nat) q, ps[j]? = some q → ∃ k, ks[j]? = some k ∧ 0 ≤ k ∧ (prs l)[k.toNat]? = some q) → matchF l ps ks = true
  | [], ks, _ => by unfold matchF; rfl
  | p :: ps, [], _ => by unfold matchF; rfl
  | p :: ps, k :: ks, h => by
    obtain ⟨k', h1, h2, h3⟩ := h 0 p rfl
    have hk : k = k' := by simpa using h1
    subst hk
    have ih := matchF_of ps ks (fun j q hq => h (j + 1) q (by simpa using hq))
    unfold matchF
    rw [ih, Bool.and_true]
    have hlt := (List.getElem?_eq_some_iff.1 h3).1
    rw [prs_length] at hlt
    have := fat_nat hlt
    rw [Int.toNat_of_nonneg h2] at this
    unfold prs at h3
    rw [List.getElem?_map, this] at h3
    injection h3 with h3
    exact decide_eq_true h3.symm
theorem done_holds (hok : GraphOk g) {l : List Fact} {f : Fact} (hi : InG g.length (f.a, f.b)) (h : DoneAt g (prs l) f) : formedF g l.length f = true ∧ holdsF g l f = true := by
  obtain ⟨ws, h1, h2, h3⟩ := h.nums
  have hfnd := found_p hok hi h.may
  have hon : onF g f = ws := by rw [h1]; exact doneP_on ws
  have hby : byF g f = (onP g (f.a, f.b), true) := by
    rw [h1, doneP_by]
    exact Prod.ext rfl hfnd.yes
  have hmany : manyF g f = some (f.why.length : Int) := by rw [h1]; exact hfnd.many ws h2
  constructor
  · rw [formed_some (by simp [placeB, hi.1, hi.2.1]) (by simp [placeB, hi.2.2.1, hi.2.2.2]) hmany, hon]
    simp only [decide_true, Bool.true_and, Bool.not_eq_true']
    rw [List.any_eq_false]
    intro k hk
    obtain ⟨j, hj⟩ := List.mem_iff_getElem?.1 hk
    have hjl := (List.getElem?_eq_some_iff.1 hj).1
    obtain ⟨k', h4, h5, h6⟩ := h3 j _ (List.getElem?_eq_getElem (by omega : j < (onP g (f.a, f.b)).length))
    rw [hj] at h4
    injection h4 with h4
    subst h4
    have := (List.getElem?_eq_some_iff.1 h6).1
    rw [prs_length] at this
    simp [outB]
    omega
  · unfold holdsF
    rw [hby, hon]
    simp only [Bool.true_and, h2, decide_true]
    exact matchF_of _ _ h3
structure Found (g : List GNode) (qs : FP) (a : List Int) (l : List Fact) : Prop where
  good : GoodL g l
  many : a.length = qs.length
  at_ : ∀ (j : Nat) q, qs[j]? = some q → ∃ k, a[j]? = some k ∧ 0 ≤ k ∧ (prs l)[k.toNat]? = some q
  done : ∀ f ∈ l, DoneAt g (prs l) f
  reach : ∀ i : Nat, i < l.length → ∃ k ∈ a, Reach g l k i
theorem Found.holds {qs : FP} {a : List Int} {l : List Fact} (h : Found g qs a l) (hok : GraphOk g) {f : Fact} (hf : f ∈ l) : formedF g l.length f = true ∧ holdsF g l f = true :=
  done_holds hok (h.good.inn _ (List.mem_map.2 ⟨f, hf, rfl⟩)) (h.done f hf)
end
end Go.Proofs.YtndophlnapjkhaaGreatDoor.Vc
namespace Go.Proofs.YtndophlnapjkhaaGreatDoor.Vc
open Go Go.RowKit
set_option linter.unusedVariables false
set_option linter.unusedSimpArgs false
section
variable {P : Program} {w : World} {ρ : Operand → Value} {o : Oper}
theorem r_append_own {x y : Operand} {t el : TypeId} {base sz n m c bytes : Nat} {v z : Value} {a : Addr} {xs ys : List Value} {S : Nat → Prop} {w0 : World} {L : List Res} (i : Nat) (h : o.op = .call { callee := .builtin .append, args := #[x, y], argTypes := #[t, t] })
    (hu : P.underlying t = some (.slice el)) (hinfo : (P.info? el).map (fun i => (i.zero, i.size, i.bytes)) = some (some z, sz, bytes)) (hz : z.cells.size = sz) (hsz : 0 < sz) (hx : ρ x = v) (hy : ρ y = .slice (some a) m c)
    (hL : Has w L) (hE : Ext S w0 w) (hi : L[i]? = some (.row base el sz v n xs)) (hlen : ys.length = m * sz) (hys : ∀ j u, ys[j]? = some u → w.cell? (a.add j) = some u) (h1 : ∀ u ∈ ys, u.oneCell' = true) (hbytes : (n + m) * bytes ≤ 140737488355328) (h63 : n + m ≤ 9223372036854775807) (hS : ∀ b, v.ownBlock = some b → b < w0.heap.size → S b) (hbw : base ≤ w.heap.size) :
    ∃ v' w', (execOp ρ o).run P w = .ok (.value v') w' ∧ Has w' (L.set i (.row base el sz v' (n + m) (xs ++ ys))) ∧ Ext S w0 w' ∧ (∀ b, v'.ownBlock = some b → b < w0.heap.size → S b) ∧ (∀ b, v'.ownBlock = some b → v.ownBlock = some b ∨ w.heap.size ≤ b) := by
  obtain ⟨i0, hinf, hzz⟩ := Option.map_eq_some_iff.1 hinfo
  simp only [Prod.mk.injEq] at hzz
  obtain ⟨hz0, hz1, hz2⟩ := hzz
  have hrow := hL.row i hi
  obtain ⟨v', w', hr, hown, hg, _, hat⟩ := run_append_own_at (P := P) w base t o.type el i0 z sz bytes hu hinf hz0 hz1 hz2 hz hsz v n xs hrow a m c ys hlen hys h1 (by simp only [maxLen]; omega) hbytes hbw
  have hat' : ∀ b, v'.ownBlock = some b → v.ownBlock = some b ∨ w.heap.size ≤ b := fun b hb => by
    rcases hat with hat | hat
    · exact .inl (by rw [← hat]; exact hb)
    · rw [hat] at hb
      injection hb with hb
      exact .inr (by omega)
  refine ⟨v', w', ?_, hL.setAt (r' := .row base el sz v' (n + m) (xs ++ ys)) i hi hown (fun b hb => hat' b hb) (fun k hk hne => hg.block k hk (fun e => hne (show v.ownBlock = some k from e.symm))), ⟨hg.os.trans hE.os, hg.tape.trans hE.tape, hg.output.trans hE.output, Nat.le_trans hE.size hg.size, fun k hk hs => ?_⟩, fun b hb hlt => ?_, hat'⟩
  · simp [execOp, h, resolve, invoke, builtin, hx, hy, hr]
  · rw [hg.block k (Nat.lt_of_lt_of_le hk hE.size) (fun e => hs (hS k e.symm hk))]
    exact hE.block k hk hs
  · rcases hat' b hb with h2 | h2
    · exact hS b h2 hlt
    · have := hE.size
      omega
end
theorem toList_putAt : ∀ (vs : List Value) (cs : Array Value) (i : Nat), i + vs.length ≤ cs.size → (putAt cs i vs).toList = cs.toList.take i ++ vs ++ cs.toList.drop (i + vs.length)
  | [], cs, i, _ => by simp [putAt]
  | v :: r, cs, i, h => by
    simp only [List.length_cons] at h
    rw [putAt, toList_putAt r _ (i + 1) (by simp; omega), Array.toList_setIfInBounds]
    have hlt : i < cs.toList.length := by simp; omega
    rw [List.take_add_one, List.getElem?_set, if_pos rfl, if_pos hlt, List.take_set_of_le (Nat.le_refl _), List.drop_set_of_lt (by omega)]
    simp only [Option.toList_some, List.append_assoc, List.cons_append, List.nil_append, List.length_cons]
    rw [show i + 1 + r.length = i + (r.length + 1) by omega]
section
variable {P : Program} {w w0 : World} {ρ : Operand → Value} {o : Oper} {S : Nat → Prop} {L : List Res}
theorem r_setRow {t : TypeId} {x y : Operand} {base el sz n cap g k : Nat} {xs vs : List Value} (i : Nat) (h : o.op = .store t x y) (hn : Sized P t sz) (hx : ρ x = .pointer (some ⟨g, k * sz, none⟩)) (hy : (ρ y).cells.toList = vs) (hvs : vs.length = sz) (h1 : vs.all Value.oneCell' = true)
    (hL : Has w L) (hE : Ext S w0 w) (hi : L[i]? = some (.row base el sz (.slice (some ⟨g, 0, none⟩) n cap) n xs)) (hk : k < n) (hS : g < w0.heap.size → S g) :
    ∃ w', (execOp ρ o).run P w = .ok .skip w' ∧ Has w' (L.set i (.row base el sz (.slice (some ⟨g, 0, none⟩) n cap) n (xs.take (k * sz) ++ vs ++ xs.drop (k * sz + sz)))) ∧ Ext S w0 w' ∧ w'.heap.size = w.heap.size ∧ (∀ c, c ≠ g → w'.heap[c]? = w.heap[c]?) := by
  have hrow := hL.row i hi
  rcases hrow.2 with ⟨h0, _⟩ | ⟨g', cap', cur, hv, hb, hh, hc, hm, hs, ht⟩
  · cases h0
  · injection hv with e1 e2 e3
    injection e1 with e1
    injection e1 with e1
    subst e1; subst e3
    have hil : i < L.length := (List.getElem?_eq_some_iff.1 hi).1
    have hL2 : Has w (L.set i (.blk g (.cells cur el (0, 0)))) := hL.setAt (r' := .blk g (.cells cur el (0, 0))) i hi hh (fun b hb => .inl (by rw [← hb]; rfl)) (fun _ _ _ => rfl)
    have hksz : k * sz + sz ≤ n * sz := by rw [← Nat.succ_mul]; exact Nat.mul_le_mul_right _ hk
    have hncap : n * sz ≤ cap * sz := Nat.mul_le_mul_right _ hc
    have hvl : (ρ y).cells.size = sz := by rw [← hvs, ← hy]; simp
    obtain ⟨w', hr, hL3, hE3, hz3, hk3⟩ := r_store (P := P) (w := w) (ρ := ρ) (o := o) (n := sz) (u := el) (cs := cur) i h hn hx hL2 hE (by simp [hil]) (by rw [hvl]; exact Nat.beq_refl _) (by rw [hy]; exact h1) (Nat.ble_eq_true_of_le (by omega)) hS
    rw [List.set_set] at hL3
    refine ⟨w', hr, ?_, hE3, hz3, hk3⟩
    have hbl := hL3.get i (by rw [List.getElem?_set, if_pos rfl, if_pos hil])
    have h4 := hL3.setAt (w1 := w') (r' := .row base el sz (.slice (some ⟨g, 0, none⟩) n cap) n (xs.take (k * sz) ++ vs ++ xs.drop (k * sz + sz))) i (by rw [List.getElem?_set, if_pos rfl, if_pos hil]) (by
      refine ⟨?_, .inr ⟨g, cap, _, rfl, hb, hbl, hc, hm, by rw [size_putAt]; exact hs, ?_⟩⟩
      · have := hrow.1
        simp [hvs]
        omega
      · rw [hy, toList_putAt _ _ _ (by omega), ← ht, hvs]
        have hcl : cur.toList.length = cap * sz := by simp [hs]
        rw [List.take_append, List.take_of_length_le (by simp; omega)]
        rw [List.length_append, List.length_take, hcl, Nat.min_eq_left (by omega), hvs, List.take_take, Nat.min_eq_left (by omega), List.drop_take, List.append_assoc]) (fun b hb => .inl (by rw [← hb]; rfl)) (fun _ _ _ => rfl)
    rw [List.set_set] at h4
    exact h4
end
theorem Has.perm {w : World} {L L' : List Res} (hp : L.Perm L') (h : Has w L) : Has w L' := by
  induction hp with
  | nil => exact h
  | cons x hp ih => exact ⟨h.1, fun q hq => h.2.1 q (hp.mem_iff.2 hq), ih h.2.2⟩
  | swap x y l => exact ⟨h.2.2.1, fun q hq b hb hqb => (by
      rcases List.mem_cons.1 hq with rfl | hq
      · exact h.2.1 x List.mem_cons_self b hqb hb
      · exact h.2.2.2.1 q hq b hb hqb), h.1, fun q hq => h.2.1 q (List.mem_cons_of_mem _ hq), h.2.2.2.2⟩
  | trans _ _ ih1 ih2 => exact ih2 (ih1 h)
theorem Has.callX {w w' : World} {A X X' T N : List Res} {S : Nat → Prop} (h : Has w (A ++ (X ++ T))) (hE : Ext S w w') (h2 : Has w' (X' ++ N)) (hS : ∀ k, S k → ∃ r ∈ X, r.foot = some k) (hf : ∀ r ∈ X' ++ N, ∀ b, r.foot = some b → (∃ q ∈ X, q.foot = some b) ∨ w.heap.size ≤ b) : Has w' (A ++ (X' ++ (T ++ N))) := by
  have h1 : Has w ((A ++ T) ++ X) := h.perm (by rw [List.append_assoc]; exact List.Perm.append_left A List.perm_append_comm)
  have h3 := h1.frame hE h2 hS hf
  refine h3.perm ?_
  rw [List.append_assoc]
  refine List.Perm.append_left A ?_
  rw [← List.append_assoc, ← List.append_assoc]
  exact List.Perm.append_right N List.perm_append_comm
section
variable {P : Program} {n : Nat} {ops : Array Oper} {Q : Post} {S : World → Prop} {fuel : Nat} {listed : Array Bool} {e : Env} {w : World} {o : Oper}
theorem o_val (i : Nat) {t : Nat} {v : Value} {w' : World} (hi : ops[i]? = some o) (hd : o.dst = some t) (ht : Nat.blt t n = true) (hw : Region.wanted o (yieldedE ops e) = true) (h : (execOp (ev e) o).run P w = .ok (.value v) w') (hS : S w') (k : hwp P n ops Q S fuel (listed.setIfInBounds i true) (e.put t v) w') : hop P n ops Q S fuel listed e w i :=
  o_new i hi hd ht hw ⟨v, w', h, (⟨rfl, rfl⟩ : v = v ∧ w' = w')⟩ (R := fun v' w1 => v' = v ∧ w1 = w') (fun v' w1 hR => by
    obtain ⟨rfl, rfl⟩ := hR
    exact ⟨hS, k⟩)
end
theorem res_snoc (b e : Nat) (v : Value) (l : List Int) (k : Int) : Res.row b e 1 v (l.length + 1) (l.map (Value.int .i64) ++ [.int .i64 k]) = .row b e 1 v (l ++ [k]).length ((l ++ [k]).map (Value.int .i64)) := by simp
theorem row_pos {w : World} {base e sz n : Nat} {v : Value} {xs : List Value} (h : w.ownsRow base e sz v n xs) (hn : 0 < n) : ∃ g cap, v = .slice (some ⟨g, 0, none⟩) n cap := by
  rcases h.2 with ⟨_, h0⟩ | ⟨g, cap, cur, hv, _⟩
  · omega
  · exact ⟨g, cap, hv⟩
theorem r_indexAddr_row {P : Program} {w : World} {ρ : Operand → Value} {o : Oper} {t el : TypeId} {x ix : Operand} {k : IntKind} {i g len cap n : Nat} (h : o.op = .indexAddr t x ix) (hu : P.underlying t = some (.slice el)) (hs : Sized P el n) (hx : ρ x = .slice (some ⟨g, 0, none⟩) len cap) (hi : ρ ix = .int k (i : Nat)) (h1 : i < len) :
    (execOp ρ o).run P w = .ok (.value (.pointer (some ⟨g, i * n, none⟩))) w := by
  have := r_indexAddr (P := P) (w := w) h hu hs hx hi (by omega) (by omega)
  rw [blk_add, Nat.zero_add, Int.toNat_natCast] at this
  exact this
/-! ### Rows of facts -/
abbrev FV : Type := Fact × Value
def fcell (x : FV) : List Value := [.int .i64 x.1.a, .int .i64 x.1.b, x.2]
def fres (ie : TypeId) (base : Nat) (x : FV) : Res := .row base ie 1 x.2 x.1.why.length (x.1.why.map (Value.int .i64))
theorem fcells_snoc (fv : List FV) (x : FV) : (fv.map fcell).flatten ++ fcell x = ((fv ++ [x]).map fcell).flatten := by simp
theorem fcells_take (fv : List FV) (k : Nat) : (fv.map fcell).flatten.take (k * 3) = ((fv.take k).map fcell).flatten := by
  induction fv generalizing k with
  | nil => simp
  | cons x r ih =>
    cases k with
    | zero => simp
    | succ k =>
      simp only [List.map_cons, List.flatten_cons, List.take_succ_cons]
      rw [List.take_append, List.take_of_length_le (by simp [fcell]; omega), show (k + 1) * 3 - (fcell x).length = k * 3 by simp [fcell]; omega, ih]
theorem fcells_drop (fv : List FV) (k : Nat) : (fv.map fcell).flatten.drop (k * 3) = ((fv.drop k).map fcell).flatten := by
  induction fv generalizing k with
  | nil => simp
  | cons x r ih =>
    cases k with
    | zero => simp
    | succ k =>
      simp only [List.map_cons, List.flatten_cons, List.drop_succ_cons]
      rw [List.drop_append, List.drop_of_length_le (by simp [fcell]; omega), show (k + 1) * 3 - (fcell x).length = k * 3 by simp [fcell]; omega, ih]
      rfl
theorem fcells_set (fv : List FV) (k : Nat) (x : FV) (hk : k < fv.length) : (fv.map fcell).flatten.take (k * 3) ++ fcell x ++ (fv.map fcell).flatten.drop (k * 3 + 3) = ((fv.set k x).map fcell).flatten := by
  rw [show k * 3 + 3 = (k + 1) * 3 by omega, fcells_take, fcells_drop, List.set_eq_take_append_cons_drop, if_pos hk]
  simp
theorem Els.facts {w : World} {ie base : Nat} {L : List Res} {fv : List FV} (h : Has w L) (hs : ∀ x ∈ fv, fres ie base x ∈ L) : Els w 3 RFact (fv.map (·.1)) (fv.map fcell) := by
  refine ⟨by simp, fun i x cs h1 h2 => ?_⟩
  rw [List.getElem?_map, Option.map_eq_some_iff] at h1 h2
  obtain ⟨y, hy, rfl⟩ := h1
  obtain ⟨y', hy', rfl⟩ := h2
  rw [hy] at hy'
  cases hy'
  have hrow : w.ownsRow base ie 1 y.2 y.1.why.length (y.1.why.map (Value.int .i64)) := h.mem _ (hs y (List.mem_of_getElem? hy))
  obtain ⟨A, c, hv, hsl, _⟩ := Sl.ofInts hrow
  exact ⟨rfl, A, c, by simp only [fcell, hv], hsl⟩
theorem facts_at {w : World} {ie base base' e n n' c : Nat} {A : Option Addr} {L : List Res} {fv : List FV} (h : Has w L) (hs : ∀ x ∈ fv, fres ie base x ∈ L) (hr : w.ownsRow base' e 3 (.slice A n' c) n (fv.map fcell).flatten) (hn : fv.length = n) : FactsAt w A c (fv.map (·.1)) ∧ n' = n := by
  obtain ⟨A', c', hv, hsl, _⟩ := Sl.ofRow hr (Els.facts h hs) (by simpa using hn)
  injection hv with h1 h2 h3
  subst h1; subst h2; subst h3
  refine ⟨?_, rfl⟩
  have hl : (fv.map (·.1)).length = n' := by simpa using hn
  unfold FactsAt
  rw [hl]
  exact hsl
theorem info_fact : (Tryz.prog.info? 43).map (fun i => (i.zero, i.size, i.bytes)) = some (some (.agg #[.int .i64 0, .int .i64 0, .slice none 0 0]), 3, 40) := by kernel_rfl
theorem key_fpair : KeyLaw Tryz.prog 59 enc2 := KeyLaw.pair (fun a b c d w => eq_fpair a b c d w) (by
  intro e a b w
  have u3 := Tryz.underlying3
  have a3 := Tryz.isAgg3
  have z3 := Tryz.sizeOf3
  have hint : ∀ d v w, (Instr.checkKey e (d + 1) 3 (.int .i64 v)).run Tryz.prog w = .ok () w := fun d v w => by
    rw [Instr.checkKey]
    simp [run_underlying u3]
  have hall : ∀ d, (Instr.checkKey e (d + 1 + 1) 59 (.agg #[.int .i64 a, .int .i64 b])).run Tryz.prog w = .ok () w := fun d => by
    rw [Instr.checkKey]
    simp only [Sem.run_bind, run_underlying Tryz.underlying59, Result.andThen_ok]
    go_simp
    all_goals simp [hint]
  exact hall 9998) Tryz.underlying59
end Go.Proofs.YtndophlnapjkhaaGreatDoor.Vc
