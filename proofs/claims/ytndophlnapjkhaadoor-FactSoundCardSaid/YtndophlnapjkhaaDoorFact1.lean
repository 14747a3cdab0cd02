/- Why a type may stand for another one: what a fact says by its kind. Conditions: those of each statement. -/
import Derived.Test.YtndophlnapjkhaaDoorSub5
namespace Go.Proofs.YtndophlnapjkhaaDoor.Vc
open Go Go.RowKit
set_option linter.unusedVariables false
set_option linter.unusedSimpArgs false

abbrev factCells (f : Fact) (A : Option Addr) (c : Nat) : List Value := [.int .i64 f.a, .int .i64 f.b, .slice A f.why.length c]
abbrev FP : Type := List (Int × Int)
def chosenF (g : List GNode) (f : Fact) : GNode := gat g (iat (membersG g f.b) (iat f.why 0))
def onF (g : List GNode) (f : Fact) : List Int := if (gat g f.a).kind = 8 then f.why else f.why.drop 1
def placeB (n : Nat) (k : Int) : Bool := decide (0 ≤ k) && decide (k < n)
/-- A fact that can be asked for its rule. -/
structure FactOk (g : List GNode) (f : Fact) : Prop where
  a : 0 ≤ f.a ∧ f.a < g.length
  b : 0 ≤ f.b ∧ f.b < g.length
  why : (gat g f.a).kind ≠ 8 → f.why ≠ []
  idx : (gat g f.a).kind ≠ 8 → ¬ ((gat g f.a).kind = 9 ∧ iat f.why 0 = -1) → 0 ≤ iat f.why 0 ∧ iat f.why 0 < (membersG g f.b).length
theorem built_fpair (a b : Int) : Tryd.prog.built 72 [(0, .int .i64 a), (1, .int .i64 b)] = some #[.int .i64 a, .int .i64 b] := by kernel_rfl
theorem info_fpair : (Tryd.prog.info? 72).map (fun i => (i.zero, i.size, i.bytes)) = some (some (.agg #[.int .i64 0, .int .i64 0]), 2, 16) := by kernel_rfl
theorem Sl.drop1 {w : World} {A : Option Addr} {n c : Nat} {l : List Int} (h : Sl w 1 RInt A n c l) (hn : 0 < n) : Sl w 1 RInt (if c = (1 : Int).toNat then A else A.map (·.add ((1 : Int).toNat * 1))) (n - (1 : Int).toNat) (c - (1 : Int).toNat) (l.drop 1) := by
  have hl := h.len
  have hc := h.cap
  have hm := h.max
  have hi := h.is hn
  refine ⟨by simp [hl], by simp; omega, by omega, fun _ => ?_, fun i x hx => ?_⟩
  · split
    · exact hi
    · rw [Option.isSome_map]; exact hi
  · rw [List.getElem?_drop] at hx
    obtain ⟨cs, h1, h2, h3⟩ := h.at_ (1 + i) x hx
    have hlt := (List.getElem?_eq_some_iff.1 hx).1
    have hne : ¬ c = (1 : Int).toNat := by simp; omega
    refine ⟨cs, h1, h2, fun j v hj => ?_⟩
    rw [if_neg hne]
    obtain ⟨a, rfl⟩ : ∃ a, A = some a := Option.isSome_iff_exists.1 hi
    have := h3 j v hj
    show w.cell? ((a.add 1).add (i * 1 + j)) = some v
    rw [adr_add]
    rw [show 1 + (i * 1 + j) = (1 + i) * 1 + j by omega]
    exact this
theorem why_pos {f : Fact} (h : f.why ≠ []) : 0 < f.why.length := List.length_pos_iff.2 h
theorem chosen_in {g : List GNode} {f : Fact} (hok : GraphOk g) (hi : 0 ≤ iat f.why 0 ∧ iat f.why 0 < (membersG g f.b).length) : 0 ≤ iat (membersG g f.b) (iat f.why 0) ∧ iat (membersG g f.b) (iat f.why 0) < g.length ∧ (chosenF g f).kind ≠ 8 := by
  refine hok.members (n := f.b) ?_
  have := iat_nat (l := membersG g f.b) (k := (iat f.why 0).toNat) (by omega)
  rw [Int.toNat_of_nonneg hi.1] at this
  exact List.mem_of_getElem? this
theorem place_calls (w0 : World) (xb : Nat) (Ag : Option Addr) (cg : Nat) (n : Nat) (hx0 : w0.cell? ⟨xb, 0, none⟩ = some (.slice Ag n cg)) (k : Int) :
    Calls Tryd.prog 29 [.pointer (some ⟨xb, 0, none⟩), .int .i64 k].toArray w0 fun en w' => en = .returned (.bool (placeB n k)) ∧ Ext0 w0 w' := by
  have hE : Ext0 w0 w0 := Ext.refl _ _
  refine calls [4] Tryd.func29 rfl rfl rfl rfl ?_
  refine c_seq ?_
  -- region 0
  refine c_ops ?_
  refine l_val rfl rfl rfl (r_assign rfl) ?_
  refine l_nil ?_
  refine c_seq ?_
  -- region 1
  refine c_ops ?_
  refine l_val rfl rfl rfl (r_move rfl) ?_
  refine l_val rfl rfl rfl (r_geq rfl rfl rfl) ?_
  refine l_val rfl rfl rfl (r_move rfl) ?_
  refine l_case 7 rfl (fun hb => ?_) (fun hb => ?_)
  · -- slot 7 is True
    have hr7 := hb
    replace hb := of_decide_eq_true hb
    refine l_val rfl rfl rfl (r_move rfl) ?_
    refine l_val rfl rfl rfl (r_move rfl) ?_
    refine l_val rfl rfl rfl (r_nilCheck rfl rfl) ?_
    refine l_val rfl rfl rfl (r_fieldAddr (n := 0) rfl Tryd.underlying65 rfl Tryd.sizeOf22 rfl) ?_
    refine l_val rfl rfl rfl (r_load rfl Tryd.isAgg22 rfl (Ext0.cells hE _ _ hx0)) ?_
    refine l_val rfl rfl rfl (r_len rfl Tryd.underlying22 rfl) ?_
    refine l_val rfl rfl rfl (r_lss rfl rfl rfl) ?_
    refine l_val rfl rfl rfl (r_pick rfl rfl) ?_
    refine l_val rfl rfl rfl (r_assign rfl) ?_
    refine l_nil ?_
    refine c_ret ?_
    exact ⟨ret_bool rfl (by simp only [placeB, hr7, Bool.true_and, Bool.and_true, Bool.false_and, Bool.and_false, Bool.true_or, Bool.or_true, Bool.false_or, Bool.or_false, Bool.not_true, Bool.not_false, cond_true, cond_false]), hE⟩
  · -- slot 7 is False
    have hr7 := hb
    replace hb := of_decide_eq_false hb
    refine l_not rfl rfl rfl ?_
    refine l_not rfl rfl rfl ?_
    refine l_not rfl rfl rfl ?_
    refine l_not rfl rfl rfl ?_
    refine l_not rfl rfl rfl ?_
    refine l_not rfl rfl rfl ?_
    refine l_not rfl rfl rfl ?_
    refine l_val rfl rfl rfl (r_pick rfl rfl) ?_
    refine l_val rfl rfl rfl (r_assign rfl) ?_
    refine l_nil ?_
    refine c_ret ?_
    exact ⟨ret_bool rfl (by simp only [placeB, hr7, Bool.true_and, Bool.and_true, Bool.false_and, Bool.and_false, Bool.true_or, Bool.or_true, Bool.false_or, Bool.or_false, Bool.not_true, Bool.not_false, cond_true, cond_false]), hE⟩
theorem on_calls (w0 : World) (xb : Nat) (Ag : Option Addr) (cg : Nat) (g : List GNode) (hg : Nodes w0 Ag cg g) (hok : GraphOk g) (hx0 : w0.cell? ⟨xb, 0, none⟩ = some (.slice Ag g.length cg)) (f : Fact) (Aw : Option Addr) (cw : Nat) (hw : Ints w0 Aw cw f.why) (hf : FactOk g f) :
    Calls Tryd.prog 40 [.pointer (some ⟨xb, 0, none⟩), .agg (factCells f Aw cw).toArray].toArray w0 fun en w' => ∃ A c, en = .returned (.slice A (onF g f).length c) ∧ (∀ W, Ints W Aw cw f.why → Ints W A c (onF g f)) ∧ Ext0 w0 w' := by
  have hE : Ext0 w0 w0 := Ext.refl _ _
  have hL : Has w0 [] := trivial
  have ha := hf.a
  obtain ⟨Ak, ck, Al, cl, hcell, hsk, hsl⟩ := hg.node f.a hf.a.1 hf.a.2
  refine calls [4] Tryd.func40 rfl rfl rfl rfl ?_
  refine c_seq ?_
  -- region 0
  refine c_ops ?_
  refine l_new rfl rfl rfl (n_box rfl hL hE) ?_
  rintro _ w ⟨b3, rfl, hb3, hL, hE, hX⟩
  refine l_val rfl rfl rfl (r_assign rfl) ?_
  refine l_nil ?_
  refine c_seq ?_
  refine c_seq ?_
  -- region 1
  refine c_draw mixed (hL) hE ?_
  replace hL := hL.drew
  replace hE := hE.drew
  have hK := hL
  refine h_t 0 rfl rfl (by kernel_rfl) (fun _ _ _ h => h) ⟨hK, hE⟩ rfl (fun W hW => r_move rfl) ?_
  refine h_t 1 rfl rfl (by kernel_rfl) (fun _ _ _ h => h) ⟨hK, hE⟩ rfl (fun W hW => r_nilCheck rfl rfl) ?_
  refine h_t 2 rfl rfl (by kernel_rfl) (fun _ _ _ h => h) ⟨hK, hE⟩ rfl (fun W hW => r_fieldAddr (n := 0) rfl Tryd.underlying65 rfl Tryd.sizeOf22 rfl) ?_
  refine h_t 3 rfl rfl (by kernel_rfl) (fun _ _ _ h => h) ⟨hK, hE⟩ rfl (fun W hW => r_load rfl Tryd.isAgg22 rfl (Ext0.cells hW.2 _ _ hx0)) ?_
  refine h_t 4 rfl rfl (by kernel_rfl) (fun _ _ _ h => h) ⟨hK, hE⟩ rfl (fun W hW => r_fieldAddr (n := 0) rfl Tryd.underlying37 rfl Tryd.sizeOf3 rfl) ?_
  refine h_t 5 rfl rfl (by kernel_rfl) (fun _ _ _ h => h) ⟨hK, hE⟩ rfl (fun W hW => r_load_blk rfl Tryd.isAgg3 rfl (hW.1.get 0 rfl) rfl) ?_
  refine h_t 6 rfl rfl (by kernel_rfl) (fun _ _ _ h => h) ⟨hK, hE⟩ rfl (fun W hW => r_indexAddr_sl rfl Tryd.underlying22 Tryd.sizeOf45 rfl hg.is rfl ha.1 ha.2) ?_
  refine h_t 7 rfl rfl (by kernel_rfl) (fun _ _ _ h => h) ⟨hK, hE⟩ rfl (fun W hW => r_fieldAddr (n := 0) rfl Tryd.underlying45 rfl Tryd.sizeOf3 rfl) ?_
  refine h_t 8 rfl rfl (by kernel_rfl) (fun _ _ _ h => h) ⟨hK, hE⟩ rfl (fun W hW => r_load rfl Tryd.isAgg3 rfl (Ext0.cells hW.2 _ _ (hcell 0 _ rfl))) ?_
  refine h_t 9 rfl rfl (by kernel_rfl) (fun _ _ _ h => h) ⟨hK, hE⟩ rfl (fun W hW => r_eql rfl rfl rfl) ?_
  refine h_done (by kernel_rfl) ?_
  refine c_cond rfl (fun hb => ?_) (fun hb => ?_)
  · -- True
    have hr14 := hb
    replace hb := of_decide_eq_true hb
    have ho : onF g f = f.why := by unfold onF; rw [if_pos hb]
    refine c_seq ?_
    -- region 2
    refine c_ops ?_
    refine l_val rfl rfl rfl (r_fieldAddr (n := 0) rfl Tryd.underlying37 rfl Tryd.sizeOf30 rfl) ?_
    refine l_val rfl rfl rfl (r_load_blk rfl Tryd.isAgg30 rfl (hL.get 0 rfl) rfl) ?_
    refine l_val rfl rfl rfl (r_assign rfl) ?_
    refine l_nil ?_
    refine c_ret ?_
    rw [ho]
    exact ⟨_, _, rfl, fun W h => h, hE⟩
  · -- False
    have hr14 := hb
    replace hb := of_decide_eq_false hb
    have ho : onF g f = f.why.drop 1 := by unfold onF; rw [if_neg hb]
    have hpos := why_pos (hf.why hb)
    refine c_skip ?_
    refine c_seq ?_
    -- region 3
    refine c_ops ?_
    refine l_val rfl rfl rfl (r_fieldAddr (n := 0) rfl Tryd.underlying37 rfl Tryd.sizeOf30 rfl) ?_
    refine l_val rfl rfl rfl (r_load_blk rfl Tryd.isAgg30 rfl (hL.get 0 rfl) rfl) ?_
    refine l_val rfl rfl rfl (r_slice_from rfl Tryd.underlying30 Tryd.sizeOf3 rfl rfl (by decide) (by omega)) ?_
    refine l_val rfl rfl rfl (r_assign rfl) ?_
    refine l_nil ?_
    refine c_ret ?_
    rw [ho]
    have hn : f.why.length - (1 : Int).toNat = (f.why.drop 1).length := by simp
    exact ⟨_, _, congrArg (fun n => Ending.returned (.slice _ n _)) hn, fun W h => by have hd := h.drop1 hpos; rw [hn] at hd; exact hd, hE⟩
theorem chosen_calls (w0 : World) (xb : Nat) (Ag : Option Addr) (cg : Nat) (g : List GNode) (hg : Nodes w0 Ag cg g) (hok : GraphOk g) (hx0 : w0.cell? ⟨xb, 0, none⟩ = some (.slice Ag g.length cg)) (f : Fact) (Aw : Option Addr) (cw : Nat) (hw : Ints w0 Aw cw f.why) (hf : FactOk g f) (hi : 0 ≤ iat f.why 0 ∧ iat f.why 0 < (membersG g f.b).length) (hpos : 0 < f.why.length)
    (Bk : Option Addr) (dk : Nat) (Bl : Option Addr) (dl : Nat) (hcell2 : ∀ j v, (nodeCells (chosenF g f) Bk dk Bl dl)[j]? = some v → w0.cell? (((adr Ag).add ((iat (membersG g f.b) (iat f.why 0)).toNat * 5)).add j) = some v) :
    Calls Tryd.prog 65 [.pointer (some ⟨xb, 0, none⟩), .agg (factCells f Aw cw).toArray].toArray w0 fun en w' => en = .returned (.agg (nodeCells (chosenF g f) Bk dk Bl dl).toArray) ∧ Ext0 w0 w' := by
  have hE : Ext0 w0 w0 := Ext.refl _ _
  have hL : Has w0 [] := trivial
  have hch := chosen_in hok hi
  refine calls_cell 4 45 Tryd.func65 rfl rfl rfl Tryd.isAgg45 Tryd.sizeOf45 ?_
  refine c_seq ?_
  -- region 0
  refine c_ops ?_
  refine l_new rfl rfl rfl (n_box rfl hL hE) ?_
  rintro _ w ⟨b3, rfl, hb3, hL, hE, hX⟩
  refine l_new rfl rfl rfl (n_alloc rfl Tryd.zeroValue45 hL hE) ?_
  rintro _ w ⟨b4, rfl, hb4, hL, hE, hX⟩
  refine l_nil ?_
  refine c_seq ?_
  -- region 1
  refine c_draw mixed (hL.sub (.cons _ (.cons_cons _ .slnil))) hE ?_
  replace hL := hL.drew
  replace hE := hE.drew
  have hK := hL.sub (.cons _ (.cons_cons _ .slnil))
  refine h_t 0 rfl rfl (by kernel_rfl) (fun _ _ _ h => h) ⟨hK, hE⟩ rfl (fun W hW => r_move rfl) ?_
  refine h_t 1 rfl rfl (by kernel_rfl) (fun _ _ _ h => h) ⟨hK, hE⟩ rfl (fun W hW => r_nilCheck rfl rfl) ?_
  refine h_t 2 rfl rfl (by kernel_rfl) (fun _ _ _ h => h) ⟨hK, hE⟩ rfl (fun W hW => r_fieldAddr (n := 0) rfl Tryd.underlying65 rfl Tryd.sizeOf22 rfl) ?_
  refine h_t 3 rfl rfl (by kernel_rfl) (fun _ _ _ h => h) ⟨hK, hE⟩ rfl (fun W hW => r_load rfl Tryd.isAgg22 rfl (Ext0.cells hW.2 _ _ hx0)) ?_
  refine h_t 4 rfl rfl (by kernel_rfl) (fun _ _ _ h => h) ⟨hK, hE⟩ rfl (fun W hW => r_move rfl) ?_
  refine h_t 5 rfl rfl (by kernel_rfl) (fun _ _ _ h => h) ⟨hK, hE⟩ rfl (fun W hW => r_nilCheck rfl rfl) ?_
  refine h_t 6 rfl rfl (by kernel_rfl) (fun _ _ _ h => h) ⟨hK, hE⟩ rfl (fun W hW => r_fieldAddr (n := 0) rfl Tryd.underlying65 rfl Tryd.sizeOf22 rfl) ?_
  refine h_t 7 rfl rfl (by kernel_rfl) (fun _ _ _ h => h) ⟨hK, hE⟩ rfl (fun W hW => r_load rfl Tryd.isAgg22 rfl (Ext0.cells hW.2 _ _ hx0)) ?_
  refine h_t 8 rfl rfl (by kernel_rfl) (fun _ _ _ h => h) ⟨hK, hE⟩ rfl (fun W hW => r_fieldAddr (n := 0) rfl Tryd.underlying37 rfl Tryd.sizeOf3 rfl) ?_
  refine h_t 9 rfl rfl (by kernel_rfl) (fun _ _ _ h => h) ⟨hK, hE⟩ rfl (fun W hW => r_load_blk rfl Tryd.isAgg3 rfl (hW.1.get 0 rfl) rfl) ?_
  refine h_t 11 rfl rfl (by kernel_rfl) (fun _ _ _ h => h) ⟨hK, hE⟩ rfl (fun W hW => r_fieldAddr (n := 0) rfl Tryd.underlying37 rfl Tryd.sizeOf30 rfl) ?_
  refine h_t 12 rfl rfl (by kernel_rfl) (fun _ _ _ h => h) ⟨hK, hE⟩ rfl (fun W hW => r_load_blk rfl Tryd.isAgg30 rfl (hW.1.get 0 rfl) rfl) ?_
  refine h_t 13 rfl rfl (by kernel_rfl) (fun _ _ _ h => h) ⟨hK, hE⟩ rfl (fun W hW => r_indexAddr_sl rfl Tryd.underlying30 Tryd.sizeOf3 rfl hw.is rfl (by decide) (by omega)) ?_
  refine h_t 14 rfl rfl (by kernel_rfl) (fun _ _ _ h => h) ⟨hK, hE⟩ rfl (fun W hW => r_load rfl Tryd.isAgg3 rfl ((hw.keep RInt.kept (Ext0.cells hW.2)).int 0 (by decide) (by omega))) ?_
  refine h_by 10 rfl rfl (by kernel_rfl) rfl (r_call rfl rfl Tryd.func19 rfl rfl) (Members_calls _ Ag cg g (hg.keep RNode.kept (Ext0.cells hE)) hok.fits f.b) ?_   -- fact.go:46 slot 15 := (call {callee=(value (func 19)), args=[(tmp 12), (tmp 14)], argTypes=[22, 3]})
  rintro _ w ⟨v, rfl, hrow, hX⟩
  replace hL := hL.addRow hX hrow
  replace hE := hE.step0 hX
  obtain ⟨A2, c2, rfl, hmem, _⟩ := Sl.ofInts hrow
  obtain ⟨bm, hL⟩ : ∃ bm, Has w (.row bm _ _ _ _ _ :: _) := ⟨_, hL⟩
  have hK := hL.sub (.cons _ (.cons _ (.cons_cons _ .slnil)))
  refine ⟨_, rfl, ⟨hK, hE⟩, ?_⟩
  refine h_t 15 rfl rfl (by kernel_rfl) (fun _ _ _ h => h) ⟨hK, hE⟩ rfl (fun W hW => r_indexAddr_sl rfl Tryd.underlying30 Tryd.sizeOf3 rfl hmem.is rfl hi.1 hi.2) ?_
  refine h_one 16 rfl rfl (by kernel_rfl) rfl (r_load rfl Tryd.isAgg3 rfl ((Sl.ints_at (hL.row 0 rfl)).int (iat f.why 0) hi.1 hi.2)) ⟨hK, hE⟩ ?_
  refine h_t 17 rfl rfl (by kernel_rfl) (fun _ _ _ h => h) ⟨hK, hE⟩ rfl (fun W hW => r_indexAddr_sl rfl Tryd.underlying22 Tryd.sizeOf45 rfl hg.is rfl hch.1 hch.2.1) ?_
  refine h_t 18 rfl rfl (by kernel_rfl) (fun _ _ _ h => h) ⟨hK, hE⟩ rfl (fun W hW => r_load_agg (vs := nodeCells (chosenF g f) Bk dk Bl dl) rfl Tryd.isAgg45 Tryd.sizeOf45 rfl (fun j v hj => Ext0.cells hW.2 _ _ (hcell2 j v hj))) ?_
  refine h_new_do 19 rfl rfl (by kernel_rfl) rfl (r_store 1 rfl Tryd.sizeOf45 rfl hL hE rfl rfl rfl rfl (fun h => absurd h (Nat.not_lt.2 hb4))) ?_
  rintro w ⟨hL, hE, hz, hk⟩
  have hK := hL.sub (.cons _ (.cons _ (.cons_cons _ .slnil)))
  refine ⟨⟨hK, hE⟩, ?_⟩
  refine h_done (by kernel_rfl) ?_
  refine c_ret ?_
  exact ⟨_, rfl, _, rfl, blk_raw (hL.get 1 rfl) rfl, rfl, hE⟩
end Go.Proofs.YtndophlnapjkhaaDoor.Vc
