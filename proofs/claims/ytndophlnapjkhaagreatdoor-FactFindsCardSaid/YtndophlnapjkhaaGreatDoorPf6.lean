/- Laws and walks for what the last text proves, part 6: FactFinds of the layer 'fact'. Conditions: those of each statement. -/
import Derived.ChangeKeysEq
import Derived.Test.YtndophlnapjkhaaGreatDoorRows
import Derived.ChangeSame
import Derived.ChangeVars
import Derived.ProofKit
import Derived.LaidMore
import Derived.OpenShut
import Derived.Stop.Joined
import Derived.Deep.Slices
import Derived.LaidLaws
import Derived.Lay
import Derived.ReadAgain
import Derived.Test.YtndophlnapjkhaaGreatDoorPf5
namespace Go.Proofs.YtndophlnapjkhaaGreatDoor.Vc
open Go Go.RowKit
set_option linter.unusedVariables false
set_option linter.unusedSimpArgs false
theorem info_pr : (Tryz.prog.info? 32).map (fun i => (i.zero, i.size, i.bytes)) = some (some (.agg #[.int .i64 0, .int .i64 0]), 2, 16) := by kernel_rfl
theorem built_pr (a b : Int) : Tryz.prog.built 32 [(0, .int .i64 a), (1, .int .i64 b)] = some #[.int .i64 a, .int .i64 b] := by kernel_rfl
def NextRes (w0 : World) (r : FP × Bool) (en : Ending) (w' : World) : Prop := ∃ v, en = .returned (.tuple #[v, .bool r.2]) ∧ w'.ownsRow w0.heap.size 32 2 v r.1.length (r.1.map cells2).flatten ∧ Ext0 w0 w'
theorem by_union {g : List GNode} {f : Fact} (h8 : (gat g f.a).kind = 8) : byF g f = ((gat g f.a).l.map (fun m => (m, f.b)), true) := by
  unfold byF unionF
  simp [h8]
theorem by_bound {g : List GNode} {f : Fact} (h9 : (gat g f.a).kind = 9) (hw : iat f.why 0 = -1) : byF g f = ([(iat (gat g f.a).l 0, f.b)], true) := by
  unfold byF unionF boundF
  simp [h9, hw]
theorem by_loose {g : List GNode} {f : Fact} (h8 : (gat g f.a).kind ≠ 8) (hw : iat f.why 0 ≠ -1) (h : (gat g f.a).kind = 1 ∨ (chosenF g f).kind = 1) : byF g f = ([], true) := by
  unfold byF unionF boundF looseF
  simp [h8, hw, h]
theorem by_plain {g : List GNode} {f : Fact} (h8 : (gat g f.a).kind ≠ 8) (hw : iat f.why 0 ≠ -1) (h : ¬ ((gat g f.a).kind = 1 ∨ (chosenF g f).kind = 1)) : byF g f = plainR (gat g f.a) (chosenF g f) := by
  unfold byF unionF boundF looseF plainF
  simp [h8, hw, h]
def oddR (s t : GNode) : Bool := !decide (s.kind = t.kind) || (decide (s.kind = 5) && !decide (s.name = t.name)) || (decide (s.kind = 9) && !decide (s.num = t.num))
theorem NodeIs.nm {g : List GNode} {x : GNode} (h : NodeIs g x) : (x.kind ≠ 5 → x.name = ⟨#[]⟩) ∧ (x.kind ≠ 9 → x.num = 0) := by
  rcases h with ⟨h, _, _, hn, hm⟩ | ⟨h, _, _, hm⟩ | ⟨h, _, _, hn, hm⟩ | ⟨h, _, _, _, _, hn, hm⟩ | ⟨h, _, _, hn⟩
  · exact ⟨fun _ => hn, fun _ => hm⟩
  · exact ⟨fun h5 => absurd h h5, fun _ => hm⟩
  · exact ⟨fun _ => hn, fun _ => hm⟩
  · exact ⟨fun _ => hn, fun _ => hm⟩
  · exact ⟨fun _ => hn, fun h9 => absurd h h9⟩
theorem oddR_eq {g : List GNode} {s t : GNode} (hs : NodeIs g s) (ht : NodeIs g t) : oddR s t = oddF s t := by
  unfold oddR oddF
  by_cases hk : s.kind = t.kind
  · have e1 : (decide (s.kind = 5) && !decide (s.name = t.name)) = !decide (s.name = t.name) := by
      by_cases h5 : s.kind = 5
      · simp [h5]
      · rw [hs.nm.1 h5, ht.nm.1 (hk ▸ h5)]
        simp
    have e2 : (decide (s.kind = 9) && !decide (s.num = t.num)) = !decide (s.num = t.num) := by
      by_cases h9 : s.kind = 9
      · simp [h9]
      · rw [hs.nm.2 h9, ht.nm.2 (hk ▸ h9)]
        simp
    rw [e1, e2]
  · simp [hk]
def LastAt (s : GNode) (key : ByteArray) (k : Nat) (at_ : Int) : Prop := (at_ = -1 ∧ ∀ j, j < k → kat s.keys j ≠ key) ∨ ∃ j, j < k ∧ kat s.keys j = key ∧ at_ = iat s.l j
theorem LastAt.zero (s : GNode) (key : ByteArray) : LastAt s key 0 (-1) := .inl ⟨rfl, fun j hj => absurd hj (Nat.not_lt_zero _)⟩
theorem LastAt.hit {s : GNode} {key : ByteArray} {k : Nat} (h : kat s.keys k = key) : LastAt s key (k + 1) (iat s.l k) := .inr ⟨k, Nat.lt_succ_self _, h, rfl⟩
theorem LastAt.miss {s : GNode} {key : ByteArray} {k : Nat} {a : Int} (hl : LastAt s key k a) (h : kat s.keys k ≠ key) : LastAt s key (k + 1) a := by
  rcases hl with ⟨h1, h2⟩ | ⟨j, h1, h2, h3⟩
  · refine .inl ⟨h1, fun j hj => ?_⟩
    rcases Nat.lt_or_eq_of_le (Nat.le_of_lt_succ hj) with h4 | rfl
    · exact h2 j h4
    · exact h
  · exact .inr ⟨j, by omega, h2, h3⟩
theorem LastAt.is {s : GNode} {key : ByteArray} {a : Int} (hr : risesB s.keys = true) (h : LastAt s key s.keys.length a) : a = fieldF s key := by
  rcases h with ⟨rfl, h2⟩ | ⟨j, h1, h2, rfl⟩
  · have : idxS s.keys key = none := by
      unfold idxS
      refine findS_no _ _ _ fun x hx => ?_
      obtain ⟨j, hj⟩ := List.mem_iff_getElem?.1 hx
      have hl := (List.getElem?_eq_some_iff.1 hj).1
      rw [kat_some hl] at hj
      cases hj
      exact decide_eq_false fun e => h2 j hl e.symm
    unfold fieldF
    rw [this]
    rfl
  · have : idxS s.keys key = some j := by
      unfold idxS
      have := findS_at (fun x => decide (key = x)) 0 s.keys j (kat s.keys j) (kat_some h1) (decide_eq_true h2.symm) (fun i y hi hy => by
        refine decide_eq_false fun e => ?_
        have hl := (List.getElem?_eq_some_iff.1 hy).1
        rw [kat_some hl] at hy
        cases hy
        have := rises_all hr hi h1
        rw [h2, ← e, ltB_irrefl] at this
        cases this)
      rwa [Nat.zero_add] at this
    exact (fieldF_some this).symm
set_option maxHeartbeats 8000000 in
theorem next_rcalls (w0 : World) (Ag : Option Addr) (cg : Nat) (g : List GNode) (hg : Nodes w0 Ag cg g) (hok : GraphOk g) (f : Fact) (Aw : Option Addr) (cw : Nat) (hw : Ints w0 Aw cw f.why) (hf : FactOk g f) :
    Calls Tryz.prog 58 [.slice Ag g.length cg, .agg (factCells f Aw cw).toArray].toArray w0 (NextRes w0 (byF g f)) := by
  have hE : Ext0 w0 w0 := Ext.refl _ _
  have hL : Has w0 [] := trivial
  have ha := hf.a
  obtain ⟨s, hs⟩ : ∃ s, s = gat g f.a := ⟨_, rfl⟩
  have his := hok.is (gat_mem' ha.1 ha.2)
  have hsbig := hok.fits.lists _ (gat_mem' ha.1 ha.2)
  have hfw := hf.why
  have hfi := hf.idx
  have hby1 := @by_union g f
  have hby2 := @by_bound g f
  have hby3 := @by_loose g f
  have hby4 := @by_plain g f
  obtain ⟨Ak, ck, Al, cl, hcell, hsk, hsl⟩ := hg.node f.a ha.1 ha.2
  have hside : (gat g f.a).kind ≠ 8 → SideOk g (gat g f.a) := fun h => SideOk.of hok (gat_mem' ha.1 ha.2) h
  rw [← hs] at his hsbig hfw hfi hby1 hby2 hby3 hby4 hcell hsk hsl hside
  refine calls [4, 5] Tryz.func58 rfl rfl rfl rfl ?_
  refine c_seq ?_
  refine c_ops ?_
  refine l_new rfl rfl rfl (n_box rfl hL hE) ?_
  rintro _ w ⟨b3, rfl, hb3, hL, hE, hX⟩
  first | replace hEm := Ext.trans hEm hX | skip
  refine l_val rfl rfl rfl (r_assign rfl) ?_
  refine l_val rfl rfl rfl (r_assign rfl) ?_
  refine l_nil ?_
  refine c_seq ?_
  refine c_ops ?_
  refine l_val rfl rfl rfl (r_move rfl) ?_
  refine l_val rfl rfl rfl (r_fieldAddr (n := 0) rfl Tryz.underlying43 rfl Tryz.sizeOf3 rfl) ?_
  refine l_val rfl rfl rfl (r_load_blk rfl Tryz.isAgg3 rfl (hL.get 0 rfl) rfl) ?_
  refine l_val rfl rfl rfl (r_indexAddr_sl rfl Tryz.underlying22 Tryz.sizeOf46 rfl hg.is rfl ha.1 ha.2) ?_
  refine l_val rfl rfl rfl (r_load_agg (vs := nodeCells s Ak ck Al cl) rfl Tryz.isAgg46 Tryz.sizeOf46 rfl (fun j v hj => Ext0.cells hE _ _ (hcell j v hj))) ?_
  refine l_new rfl rfl rfl (n_alloc rfl Tryz.zeroValue46 hL hE) ?_
  rintro _ w ⟨b6, rfl, hb6, hL, hE, hX⟩
  first | replace hEm := Ext.trans hEm hX | skip
  refine l_new_do rfl rfl (r_store 0 rfl Tryz.sizeOf46 rfl hL hE rfl rfl rfl rfl (fun h => absurd h (Nat.not_lt.2 hb6))) ?_
  rintro w ⟨hL, hE, hz, hk⟩; replace hL : Has w [.blk b6 (.cells (nodeCells s Ak ck Al cl).toArray 46 (0, 0)), .blk b3 (.cells (factCells f Aw cw).toArray 43 (0, 0))] := hL
  refine l_nil ?_
  refine c_seq ?_
  refine c_ops ?_
  refine l_val rfl rfl rfl (r_assign rfl) ?_
  refine l_nil ?_
  refine c_seq ?_
  refine c_seq ?_
  refine c_ops ?_
  refine l_val rfl rfl rfl (r_fieldAddr (n := 0) rfl Tryz.underlying46 rfl Tryz.sizeOf3 rfl) ?_
  refine l_val rfl rfl rfl (r_load_blk rfl Tryz.isAgg3 rfl (hL.get 0 rfl) rfl) ?_
  refine l_val rfl rfl rfl (r_eql rfl rfl rfl) ?_
  refine l_nil ?_
  refine c_cond rfl (fun hb => ?_) (fun hb => ?_)
  · have hr20 := hb
    replace hb := of_decide_eq_true hb
    have hby := hby1 hb
    replace hL := hL.nilRow w0.heap.size 32 2
    refine c_seq ?_
    refine c_seq ?_
 
    refine c_ops ?_
    refine l_val rfl rfl rfl (r_assign rfl) ?_
    refine l_nil ?_
    refine c_block ?_
 
    refine c_loop0 (fun m1 e w => (e 0 = .slice Ag g.length cg ∧ e 3 = .pointer (some ⟨b3, 0, none⟩) ∧ e 6 = .pointer (some ⟨b6, 0, none⟩)) ∧ ∃ (k : Nat) (A5 : Option Addr) (c5 : Nat), k ≤ s.l.length ∧ m1 = s.l.length - k ∧ e 8 = .int .i64 (k : Nat) ∧ e 7 = .slice A5 ((s.l.take k).map (fun m => (m, f.b))).length c5 ∧ Has w [.row w0.heap.size 32 2 (.slice A5 ((s.l.take k).map (fun m => (m, f.b))).length c5) (((s.l.take k).map (fun m => (m, f.b)))).length ((((s.l.take k).map (fun m => (m, f.b)))).map cells2).flatten, .blk b6 (.cells (nodeCells s Ak ck Al cl).toArray 46 (0, 0)), .blk b3 (.cells (factCells f Aw cw).toArray 43 (0, 0))] ∧ Ext0 w0 w) (s.l.length) ?_ ?_
    · exact ⟨⟨rfl, rfl, rfl⟩, 0, none, 0, Nat.zero_le _, rfl, rfl, rfl, hL, hE⟩
    rintro m1 e w ⟨⟨hq0, hq3, hq6⟩, hI⟩
    refine c_know (t := 0) (by exact hq0) ?_
    refine c_know (t := 3) (by exact hq3) ?_
    refine c_know (t := 6) (by exact hq6) ?_
    clear hq0 hq3 hq6
    obtain ⟨k, A5, c5, hkl, hkm, h8s, h7s, hL, hE⟩ := hI
    refine c_know (t := 8) (by exact h8s) ?_
    refine c_know (t := 7) (by exact h7s) ?_
    refine c_seq ?_
    refine c_seq ?_
 
    refine c_ops ?_
    refine l_val rfl rfl rfl (r_move rfl) ?_
    refine l_val rfl rfl rfl (r_fieldAddr (n := 0) rfl Tryz.underlying46 rfl Tryz.sizeOf26 rfl) ?_
    refine l_val rfl rfl rfl (r_load_blk rfl Tryz.isAgg26 rfl (hL.get 1 rfl) rfl) ?_
    refine l_val rfl rfl rfl (r_len rfl Tryz.underlying26 rfl) ?_
    refine l_val rfl rfl rfl (r_lss rfl rfl rfl) ?_
    refine l_nil ?_
    refine c_cond rfl (fun hb => ?_) (fun hb => ?_)
    · have hr25 := hb
      replace hb := of_decide_eq_true hb
      have hklt : k < s.l.length := by omega
      have htk1 : (s.l.take (k + 1)).map (fun m => (m, f.b)) = ((s.l.take k).map (fun m => (m, f.b))) ++ [((iat s.l k), f.b)] := by rw [take_snoc (iat_nat hklt)]; simp
      refine c_skip ?_
      refine c_seq ?_
      refine c_block ?_
   
      refine c_draw mixed (hL.sub (.cons _ (.cons_cons _ (.cons_cons _ .slnil)))) hE ?_
      replace hL := hL.drew
      replace hE := hE.drew
      have hK := hL.sub (.cons _ (.cons_cons _ (.cons_cons _ .slnil)))
      refine h_t 0 rfl rfl (by kernel_rfl) (fun _ _ _ h => h) ⟨hK, hE⟩ rfl (fun W hW => r_move rfl) ?_
      refine h_listed (listed' := #[T',F',F',F',F',F',F',F',F',F',F',F']) (by kernel_rfl) ?_
      refine h_t 1 rfl rfl (by kernel_rfl) (fun _ _ _ h => h) ⟨hK, hE⟩ rfl (fun W hW => r_fieldAddr (n := 0) rfl Tryz.underlying46 rfl Tryz.sizeOf26 rfl) ?_
      refine h_listed (listed' := #[T',T',F',F',F',F',F',F',F',F',F',F']) (by kernel_rfl) ?_
      refine h_t 2 rfl rfl (by kernel_rfl) (fun _ _ _ h => h) ⟨hK, hE⟩ rfl (fun W hW => r_load_blk rfl Tryz.isAgg26 rfl (hW.1.get 0 rfl) rfl) ?_
      refine h_listed (listed' := #[T',T',T',F',F',F',F',F',F',F',F',F']) (by kernel_rfl) ?_
      refine h_t 3 rfl rfl (by kernel_rfl) (fun _ _ _ h => h) ⟨hK, hE⟩ rfl (fun W hW => r_move rfl) ?_
      refine h_listed (listed' := #[T',T',T',T',F',F',F',F',F',F',F',F']) (by kernel_rfl) ?_
      refine h_t 4 rfl rfl (by kernel_rfl) (fun _ _ _ h => h) ⟨hK, hE⟩ rfl (fun W hW => r_indexAddr_sl rfl Tryz.underlying26 Tryz.sizeOf3 rfl hsl.is rfl (by omega) (by omega)) ?_
      refine h_listed (listed' := #[T',T',T',T',T',F',F',F',F',F',F',F']) (by kernel_rfl) ?_
      refine h_t 5 rfl rfl (by kernel_rfl) (fun _ _ _ h => h) ⟨hK, hE⟩ rfl (fun W hW => r_load (v := .int .i64 (iat s.l k)) rfl Tryz.isAgg3 rfl ((hsl.keep RInt.kept (Ext0.cells hW.2)).int k (by omega) (by omega))) ?_
      refine h_listed (listed' := #[T',T',T',T',T',T',F',F',F',F',F',F']) (by kernel_rfl) ?_
      refine h_t 6 rfl rfl (by kernel_rfl) (fun _ _ _ h => h) ⟨hK, hE⟩ rfl (fun W hW => r_fieldAddr (n := 0) rfl Tryz.underlying43 rfl Tryz.sizeOf3 rfl) ?_
      refine h_listed (listed' := #[T',T',T',T',T',T',T',F',F',F',F',F']) (by kernel_rfl) ?_
      refine h_t 7 rfl rfl (by kernel_rfl) (fun _ _ _ h => h) ⟨hK, hE⟩ rfl (fun W hW => r_load_blk rfl Tryz.isAgg3 rfl (hW.1.get 1 rfl) rfl) ?_
      refine h_listed (listed' := #[T',T',T',T',T',T',T',T',F',F',F',F']) (by kernel_rfl) ?_
      refine h_t 8 rfl rfl (by kernel_rfl) (fun _ _ _ h => h) ⟨hK, hE⟩ rfl (fun W hW => r_build rfl rfl (built_pr _ _)) ?_
      refine h_listed (listed' := #[T',T',T',T',T',T',T',T',T',F',F',F']) (by kernel_rfl) ?_
      refine h_new 9 rfl rfl (by kernel_rfl) rfl (n_slice (cells := #[.int .i64 (iat s.l k), .int .i64 f.b]) rfl Tryz.underlying23 Tryz.sizeOf32 Tryz.zeroValue32 rfl rfl (fill_pair _ _) hL hE) ?_
      rintro _ w ⟨s37, rfl, hs37, hL, hE, hX⟩
      first | replace hEm := Ext.trans hEm hX | skip
      have hK := hL.sub (.cons _ (.cons _ (.cons_cons _ (.cons_cons _ .slnil))))
      refine ⟨⟨hK, hE⟩, ?_⟩
      refine h_listed (listed' := #[T',T',T',T',T',T',T',T',T',T',F',F']) (by kernel_rfl) ?_
      refine h_new 10 rfl rfl (by kernel_rfl) rfl (r_append (ys := cells2 ((iat s.l k), f.b)) 1 rfl Tryz.underlying23 info_pr rfl (by decide) rfl rfl hL hE rfl rfl (blk_raw (cs := #[.int .i64 (iat s.l k), .int .i64 f.b]) (hL.get 0 rfl) rfl) (fun u hu => by simp [cells2] at hu; rcases hu with rfl | rfl <;> rfl) (by simp; omega) (by simp; omega) (Nat.le_refl _) hE.size) ?_
      rintro _ w ⟨hL, hE, hk⟩
      obtain ⟨A8, c8, rfl⟩ := ownsRow_slice (hL.row 1 rfl)
      replace hL : Has w [.blk s37 (.cells #[.int .i64 (iat s.l k), .int .i64 f.b] 32 (0, 0)), .row w0.heap.size 32 2 (.slice A8 (((s.l.take k).map (fun m => (m, f.b))) ++ [((iat s.l k), f.b)]).length c8) (((s.l.take k).map (fun m => (m, f.b))) ++ [((iat s.l k), f.b)]).length ((((s.l.take k).map (fun m => (m, f.b))) ++ [((iat s.l k), f.b)]).map cells2).flatten, .blk b6 (.cells (nodeCells s Ak ck Al cl).toArray 46 (0, 0)), .blk b3 (.cells (factCells f Aw cw).toArray 43 (0, 0))] := by rw [← pairs_snoc, List.length_append]; exact hL
      first | replace hEm := Ext.trans hEm hX | skip
      have hK := hL.sub (.cons _ (.cons _ (.cons_cons _ (.cons_cons _ .slnil))))
      refine ⟨⟨hK, hE⟩, ?_⟩
      refine h_listed (listed' := #[T',T',T',T',T',T',T',T',T',T',T',F']) (by kernel_rfl) ?_
      refine h_t 11 rfl rfl (by kernel_rfl) (fun _ _ _ h => h) ⟨hK, hE⟩ rfl (fun W hW => r_assign rfl) ?_
      refine h_listed (listed' := #[T',T',T',T',T',T',T',T',T',T',T',T']) (by kernel_rfl) ?_
      refine h_done (by kernel_rfl) ?_
   
      refine c_ops ?_
      refine l_val rfl rfl rfl (r_move rfl) ?_
      refine l_val rfl rfl rfl (r_add rfl rfl rfl) ?_
      refine l_val rfl rfl rfl (r_assign rfl) ?_
      refine l_nil ?_
      exact ⟨s.l.length - (k + 1), by omega, ⟨rfl, rfl, rfl⟩, k + 1, A8, c8, by omega, rfl, by show Value.int .i64 (IntKind.i64.wrap ((k : Int) + 1)) = _; rw [wrap_succ hklt hsl.max], congrArg (fun n => Value.slice A8 n c8) (by rw [htk1, List.length_append]; rfl), by rw [htk1]; exact hL.tail, hE⟩
    · have hr25 := hb
      replace hb := of_decide_eq_false hb
      obtain rfl : k = s.l.length := by omega
      have hT : (s.l.take s.l.length).map (fun m => (m, f.b)) = s.l.map (fun m => (m, f.b)) := by rw [List.take_length]
      refine c_exit ?_
      refine c_seq ?_
   
      refine c_ops ?_
      refine l_val rfl rfl rfl (r_move rfl) ?_
      refine l_val rfl rfl rfl (r_assign rfl) ?_
      refine l_val rfl rfl rfl (r_assign rfl) ?_
      refine l_nil ?_
      refine c_ret ?_
      rw [hby]; exact ⟨_, rfl, by show World.ownsRow _ _ _ _ _ (s.l.map (fun m => (m, f.b))).length ((s.l.map (fun m => (m, f.b))).map cells2).flatten; rw [← hT]; exact hL.row 0 rfl, hE⟩
  · have hr20 := hb
    replace hb := of_decide_eq_false hb
    have h8 : s.kind ≠ 8 := hb
    have hwp := why_pos (hfw h8)
    replace hside := hside h8
    refine c_skip ?_
    refine c_seq ?_
    refine c_seq ?_
 
    refine c_ops ?_
    refine l_val rfl rfl rfl (r_fieldAddr (n := 0) rfl Tryz.underlying43 rfl Tryz.sizeOf26 rfl) ?_
    refine l_val rfl rfl rfl (r_load_blk rfl Tryz.isAgg26 rfl (hL.get 1 rfl) rfl) ?_
    refine l_val rfl rfl rfl (r_indexAddr_sl rfl Tryz.underlying26 Tryz.sizeOf3 rfl hw.is rfl (by omega) (by omega)) ?_
    refine l_val rfl rfl rfl (r_load (v := .int .i64 (iat f.why 0)) rfl Tryz.isAgg3 rfl ((hw.keep RInt.kept (Ext0.cells hE)).int 0 (by omega) (by omega))) ?_
    refine l_val rfl rfl rfl (r_eql rfl rfl rfl) ?_
    refine l_nil ?_
    refine c_cond rfl (fun hb => ?_) (fun hb => ?_)
    · have hr44 := hb
      replace hb := of_decide_eq_true hb
      have h9 : s.kind = 9 := Classical.byContradiction fun h => by have := hfi h8 (fun h2 => h h2.1); omega
      have hby := hby2 h9 hb
      have hs1 := hside.var h9
      refine c_seq ?_
   
      refine c_draw mixed (hL) hE ?_
      replace hL := hL.drew
      replace hE := hE.drew
      have hK := hL
      refine h_t 0 rfl rfl (by kernel_rfl) (fun _ _ _ h => h) ⟨hK, hE⟩ rfl (fun W hW => r_fieldAddr (n := 0) rfl Tryz.underlying46 rfl Tryz.sizeOf26 rfl) ?_
      refine h_t 1 rfl rfl (by kernel_rfl) (fun _ _ _ h => h) ⟨hK, hE⟩ rfl (fun W hW => r_load_blk rfl Tryz.isAgg26 rfl (hW.1.get 0 rfl) rfl) ?_
      refine h_t 2 rfl rfl (by kernel_rfl) (fun _ _ _ h => h) ⟨hK, hE⟩ rfl (fun W hW => r_indexAddr_sl rfl Tryz.underlying26 Tryz.sizeOf3 rfl hsl.is rfl (by omega) (by omega)) ?_
      refine h_t 3 rfl rfl (by kernel_rfl) (fun _ _ _ h => h) ⟨hK, hE⟩ rfl (fun W hW => r_load (v := .int .i64 (iat s.l 0)) rfl Tryz.isAgg3 rfl ((hsl.keep RInt.kept (Ext0.cells hW.2)).int 0 (by omega) (by omega))) ?_
      refine h_t 4 rfl rfl (by kernel_rfl) (fun _ _ _ h => h) ⟨hK, hE⟩ rfl (fun W hW => r_fieldAddr (n := 0) rfl Tryz.underlying43 rfl Tryz.sizeOf3 rfl) ?_
      refine h_t 5 rfl rfl (by kernel_rfl) (fun _ _ _ h => h) ⟨hK, hE⟩ rfl (fun W hW => r_load_blk rfl Tryz.isAgg3 rfl (hW.1.get 1 rfl) rfl) ?_
      refine h_t 6 rfl rfl (by kernel_rfl) (fun _ _ _ h => h) ⟨hK, hE⟩ rfl (fun W hW => r_build rfl rfl (built_pr _ _)) ?_
      refine h_new 7 rfl rfl (by kernel_rfl) rfl (n_slice (cells := #[.int .i64 (iat s.l 0), .int .i64 f.b]) rfl Tryz.underlying23 Tryz.sizeOf32 Tryz.zeroValue32 rfl rfl (fill_pair _ _) hL hE) ?_
      rintro _ w ⟨s52, rfl, hs52, hL, hE, hX⟩
      first | replace hEm := Ext.trans hEm hX | skip
      have hK := hL.sub (.cons _ (.cons_cons _ (.cons_cons _ .slnil)))
      refine ⟨⟨hK, hE⟩, ?_⟩
      refine h_t 8 rfl rfl (by kernel_rfl) (fun _ _ _ h => h) ⟨hK, hE⟩ rfl (fun W hW => r_assign rfl) ?_
      refine h_t 9 rfl rfl (by kernel_rfl) (fun _ _ _ h => h) ⟨hK, hE⟩ rfl (fun W hW => r_assign rfl) ?_
      refine h_done (by kernel_rfl) ?_
      refine c_ret ?_
      rw [hby]; exact ⟨_, rfl, (Has.asRow (n := 1) (sz := 2) hL hs52 rfl (by decide)).row 0 rfl, hE⟩
    · have hr44 := hb
      replace hb := of_decide_eq_false hb
      have hwi : 0 ≤ iat f.why 0 ∧ iat f.why 0 < (membersG g f.b).length := hfi h8 (fun h => hb h.2)
      have hch := chosen_in hok hwi
      obtain ⟨t, ht⟩ : ∃ t, t = chosenF g f := ⟨_, rfl⟩
      have hit := hok.is (gat_mem' hch.1 hch.2.1)
      have htside := SideOk.of hok (gat_mem' hch.1 hch.2.1) hch.2.2
      obtain ⟨Bk, dk, Bl, dl, hcell2, htk, htl⟩ := hg.node _ hch.1 hch.2.1
      have htbig := hok.fits.lists _ (gat_mem' hch.1 hch.2.1)
      rw [show gat g (iat (membersG g f.b) (iat f.why 0)) = t from ht.symm] at htbig hit htside hcell2 htk htl
      replace hby3 := hby3 h8 hb
      replace hby4 := hby4 h8 hb
      rw [← ht] at hby3 hby4
      refine c_skip ?_
      refine c_merge [9, 53, 54, 55, 56, 57, 58, 59, 60, 61, 62, 63, 64, 65] (fun e w => ∃ b9, e 9 = .pointer (some ⟨b9, 0, none⟩) ∧ Has w [.blk b9 (.cells (nodeCells t Bk dk Bl dl).toArray 46 (0, 0)), .blk b6 (.cells (nodeCells s Ak ck Al cl).toArray 46 (0, 0)), .blk b3 (.cells (factCells f Aw cw).toArray 43 (0, 0))] ∧ Ext0 w0 w) ?_ ?_
      · skip
     
        refine c_draw mixed (hL) hE ?_
        replace hL := hL.drew
        replace hE := hE.drew
        have hK := hL
        refine h_t 0 rfl rfl (by kernel_rfl) (fun _ _ _ h => h) ⟨hK, hE⟩ rfl (fun W hW => r_move rfl) ?_
        refine h_listed (listed' := #[T',F',F',F',F',F',F',F',F',F',F',F',F',F',F']) (by kernel_rfl) ?_
        refine h_t 1 rfl rfl (by kernel_rfl) (fun _ _ _ h => h) ⟨hK, hE⟩ rfl (fun W hW => r_move rfl) ?_
        refine h_listed (listed' := #[T',T',F',F',F',F',F',F',F',F',F',F',F',F',F']) (by kernel_rfl) ?_
        refine h_t 2 rfl rfl (by kernel_rfl) (fun _ _ _ h => h) ⟨hK, hE⟩ rfl (fun W hW => r_fieldAddr (n := 0) rfl Tryz.underlying43 rfl Tryz.sizeOf3 rfl) ?_
        refine h_listed (listed' := #[T',T',T',F',F',F',F',F',F',F',F',F',F',F',F']) (by kernel_rfl) ?_
        refine h_t 3 rfl rfl (by kernel_rfl) (fun _ _ _ h => h) ⟨hK, hE⟩ rfl (fun W hW => r_load_blk rfl Tryz.isAgg3 rfl (hW.1.get 1 rfl) rfl) ?_
        refine h_listed (listed' := #[T',T',T',T',F',F',F',F',F',F',F',F',F',F',F']) (by kernel_rfl) ?_
        refine h_t 5 rfl rfl (by kernel_rfl) (fun _ _ _ h => h) ⟨hK, hE⟩ rfl (fun W hW => r_fieldAddr (n := 0) rfl Tryz.underlying43 rfl Tryz.sizeOf26 rfl) ?_
        refine h_listed (listed' := #[T',T',T',T',F',T',F',F',F',F',F',F',F',F',F']) (by kernel_rfl) ?_
        refine h_t 6 rfl rfl (by kernel_rfl) (fun _ _ _ h => h) ⟨hK, hE⟩ rfl (fun W hW => r_load_blk rfl Tryz.isAgg26 rfl (hW.1.get 1 rfl) rfl) ?_
        refine h_listed (listed' := #[T',T',T',T',F',T',T',F',F',F',F',F',F',F',F']) (by kernel_rfl) ?_
        refine h_t 7 rfl rfl (by kernel_rfl) (fun _ _ _ h => h) ⟨hK, hE⟩ rfl (fun W hW => r_indexAddr_sl rfl Tryz.underlying26 Tryz.sizeOf3 rfl hw.is rfl (by omega) (by omega)) ?_
        refine h_listed (listed' := #[T',T',T',T',F',T',T',T',F',F',F',F',F',F',F']) (by kernel_rfl) ?_
        refine h_t 8 rfl rfl (by kernel_rfl) (fun _ _ _ h => h) ⟨hK, hE⟩ rfl (fun W hW => r_load (v := .int .i64 (iat f.why 0)) rfl Tryz.isAgg3 rfl ((hw.keep RInt.kept (Ext0.cells hW.2)).int 0 (by omega) (by omega))) ?_
        refine h_listed (listed' := #[T',T',T',T',F',T',T',T',T',F',F',F',F',F',F']) (by kernel_rfl) ?_
        refine h_many [4, 13] (by kernel_rfl) ⟨?_, ?_, trivial⟩
        · refine o_by 4 rfl rfl rfl rfl (r_call rfl rfl Tryz.func63 rfl rfl) (rMembers_calls _ Ag cg g (hg.keep RNode.kept (Ext0.cells hE)) hok.fits f.b) ?_
          rintro _ w ⟨v, rfl, hrow, hX⟩
          replace hL := hL.ext0 hX
          replace hE := hE.step0 hX
          obtain ⟨A2, c2, rfl, hmem, _⟩ := Sl.ofInts hrow
          obtain ⟨wm, hwm⟩ : ∃ x, x = w := ⟨_, rfl⟩
          rw [← hwm] at hmem
          have hEm : Ext0 wm w := hwm ▸ Ext.refl _ _
          have hK := hL
          refine ⟨_, rfl, ⟨hK, hE⟩, ?_⟩
          refine h_listed (listed' := #[T',T',T',T',T',T',T',T',T',F',F',F',F',F',F']) (by kernel_rfl) ?_
          refine h_t 9 rfl rfl (by kernel_rfl) (fun _ _ _ h => h) ⟨hK, hE⟩ rfl (fun W hW => r_indexAddr_sl rfl Tryz.underlying26 Tryz.sizeOf3 rfl hmem.is rfl hwi.1 hwi.2) ?_
          refine h_listed (listed' := #[T',T',T',T',T',T',T',T',T',T',F',F',F',F',F']) (by kernel_rfl) ?_
          refine h_many [10, 13] (by kernel_rfl) ⟨?_, ?_, trivial⟩
          · refine o_val 10 rfl rfl rfl rfl (r_load (v := .int .i64 (iat (membersG g f.b) (iat f.why 0))) rfl Tryz.isAgg3 rfl ((hmem.keep RInt.kept (Ext0.cells hEm)).int _ hwi.1 hwi.2)) ⟨hK, hE⟩ ?_
            refine h_listed (listed' := #[T',T',T',T',T',T',T',T',T',T',T',F',F',F',F']) (by kernel_rfl) ?_
            refine h_t 11 rfl rfl (by kernel_rfl) (fun _ _ _ h => h) ⟨hK, hE⟩ rfl (fun W hW => r_indexAddr_sl rfl Tryz.underlying22 Tryz.sizeOf46 rfl hg.is rfl hch.1 hch.2.1) ?_
            refine h_listed (listed' := #[T',T',T',T',T',T',T',T',T',T',T',T',F',F',F']) (by kernel_rfl) ?_
            refine h_t 12 rfl rfl (by kernel_rfl) (fun _ _ _ h => h) ⟨hK, hE⟩ rfl (fun W hW => r_load_agg (vs := nodeCells t Bk dk Bl dl) rfl Tryz.isAgg46 Tryz.sizeOf46 rfl (fun j v hj => (Ext0.cells hW.2) _ _ (hcell2 j v hj))) ?_
            refine h_listed (listed' := #[T',T',T',T',T',T',T',T',T',T',T',T',T',F',F']) (by kernel_rfl) ?_
            refine h_new 13 rfl rfl (by kernel_rfl) rfl (n_alloc rfl Tryz.zeroValue46 hL hE) ?_
            rintro _ w ⟨b9, rfl, hb9, hL, hE, hX⟩
            first | replace hEm := Ext.trans hEm hX | skip
            have hK := hL.sub (.cons _ (.cons_cons _ (.cons_cons _ .slnil)))
            refine ⟨⟨hK, hE⟩, ?_⟩
            refine h_listed (listed' := #[T',T',T',T',T',T',T',T',T',T',T',T',T',T',F']) (by kernel_rfl) ?_
            refine h_new_do 14 rfl rfl (by kernel_rfl) rfl (r_store 0 rfl Tryz.sizeOf46 rfl hL hE rfl rfl rfl rfl (fun h => absurd h (Nat.not_lt.2 hb9))) ?_
            rintro w ⟨hL, hE, hz, hk⟩; replace hL : Has w [.blk b9 (.cells (nodeCells t Bk dk Bl dl).toArray 46 (0, 0)), .blk b6 (.cells (nodeCells s Ak ck Al cl).toArray 46 (0, 0)), .blk b3 (.cells (factCells f Aw cw).toArray 43 (0, 0))] := hL
            have hK := hL.sub (.cons _ (.cons_cons _ (.cons_cons _ .slnil)))
            refine ⟨⟨hK, hE⟩, ?_⟩
            refine h_listed (listed' := #[T',T',T',T',T',T',T',T',T',T',T',T',T',T',T']) (by kernel_rfl) ?_
            refine h_done (by kernel_rfl) ?_
            refine ⟨by repeat (first | exact Agree.over _ _ _ | exact Agree.refl _ _ | (refine Agree.puto ?_ _ _ rfl) | (refine Agree.put ?_ _ _ rfl) | (refine Agree.sub ?_ rfl)), ?_⟩
            exact ⟨b9, rfl, (((hL.front 2 rfl).front 2 rfl).front 2 rfl), hE⟩
          · refine o_new 13 rfl rfl rfl rfl (n_alloc rfl Tryz.zeroValue46 hL hE) ?_
            rintro _ w ⟨b9, rfl, hb9, hL, hE, hX⟩
            first | replace hEm := Ext.trans hEm hX | skip
            have hK := hL.sub (.cons _ (.cons_cons _ (.cons_cons _ .slnil)))
            refine ⟨⟨hK, hE⟩, ?_⟩
            refine h_listed (listed' := #[T',T',T',T',T',T',T',T',T',T',F',F',F',T',F']) (by kernel_rfl) ?_
            refine h_one 10 rfl rfl (by kernel_rfl) rfl (r_load (v := .int .i64 (iat (membersG g f.b) (iat f.why 0))) rfl Tryz.isAgg3 rfl ((hmem.keep RInt.kept (Ext0.cells hEm)).int _ hwi.1 hwi.2)) ⟨hK, hE⟩ ?_
            refine h_listed (listed' := #[T',T',T',T',T',T',T',T',T',T',T',F',F',T',F']) (by kernel_rfl) ?_
            refine h_t 11 rfl rfl (by kernel_rfl) (fun _ _ _ h => h) ⟨hK, hE⟩ rfl (fun W hW => r_indexAddr_sl rfl Tryz.underlying22 Tryz.sizeOf46 rfl hg.is rfl hch.1 hch.2.1) ?_
            refine h_listed (listed' := #[T',T',T',T',T',T',T',T',T',T',T',T',F',T',F']) (by kernel_rfl) ?_
            refine h_t 12 rfl rfl (by kernel_rfl) (fun _ _ _ h => h) ⟨hK, hE⟩ rfl (fun W hW => r_load_agg (vs := nodeCells t Bk dk Bl dl) rfl Tryz.isAgg46 Tryz.sizeOf46 rfl (fun j v hj => (Ext0.cells hW.2) _ _ (hcell2 j v hj))) ?_
            refine h_listed (listed' := #[T',T',T',T',T',T',T',T',T',T',T',T',T',T',F']) (by kernel_rfl) ?_
            refine h_new_do 14 rfl rfl (by kernel_rfl) rfl (r_store 0 rfl Tryz.sizeOf46 rfl hL hE rfl rfl rfl rfl (fun h => absurd h (Nat.not_lt.2 hb9))) ?_
            rintro w ⟨hL, hE, hz, hk⟩; replace hL : Has w [.blk b9 (.cells (nodeCells t Bk dk Bl dl).toArray 46 (0, 0)), .blk b6 (.cells (nodeCells s Ak ck Al cl).toArray 46 (0, 0)), .blk b3 (.cells (factCells f Aw cw).toArray 43 (0, 0))] := hL
            have hK := hL.sub (.cons _ (.cons_cons _ (.cons_cons _ .slnil)))
            refine ⟨⟨hK, hE⟩, ?_⟩
            refine h_listed (listed' := #[T',T',T',T',T',T',T',T',T',T',T',T',T',T',T']) (by kernel_rfl) ?_
            refine h_done (by kernel_rfl) ?_
            refine ⟨by repeat (first | exact Agree.over _ _ _ | exact Agree.refl _ _ | (refine Agree.puto ?_ _ _ rfl) | (refine Agree.put ?_ _ _ rfl) | (refine Agree.sub ?_ rfl)), ?_⟩
            exact ⟨b9, rfl, (((hL.front 2 rfl).front 2 rfl).front 2 rfl), hE⟩
        · refine o_new 13 rfl rfl rfl rfl (n_alloc rfl Tryz.zeroValue46 hL hE) ?_
          rintro _ w ⟨b9, rfl, hb9, hL, hE, hX⟩
          first | replace hEm := Ext.trans hEm hX | skip
          have hK := hL.sub (.cons _ (.cons_cons _ (.cons_cons _ .slnil)))
          refine ⟨⟨hK, hE⟩, ?_⟩
          refine h_listed (listed' := #[T',T',T',T',F',T',T',T',T',F',F',F',F',T',F']) (by kernel_rfl) ?_
          refine h_by 4 rfl rfl (by kernel_rfl) rfl (r_call rfl rfl Tryz.func63 rfl rfl) (rMembers_calls _ Ag cg g (hg.keep RNode.kept (Ext0.cells hE)) hok.fits f.b) ?_
          rintro _ w ⟨v, rfl, hrow, hX⟩
          replace hL := hL.ext0 hX
          replace hE := hE.step0 hX
          obtain ⟨A2, c2, rfl, hmem, _⟩ := Sl.ofInts hrow
          obtain ⟨wm, hwm⟩ : ∃ x, x = w := ⟨_, rfl⟩
          rw [← hwm] at hmem
          have hEm : Ext0 wm w := hwm ▸ Ext.refl _ _
          have hK := hL.sub (.cons _ (.cons_cons _ (.cons_cons _ .slnil)))
          refine ⟨_, rfl, ⟨hK, hE⟩, ?_⟩
          refine h_listed (listed' := #[T',T',T',T',T',T',T',T',T',F',F',F',F',T',F']) (by kernel_rfl) ?_
          refine h_t 9 rfl rfl (by kernel_rfl) (fun _ _ _ h => h) ⟨hK, hE⟩ rfl (fun W hW => r_indexAddr_sl rfl Tryz.underlying26 Tryz.sizeOf3 rfl hmem.is rfl hwi.1 hwi.2) ?_
          refine h_listed (listed' := #[T',T',T',T',T',T',T',T',T',T',F',F',F',T',F']) (by kernel_rfl) ?_
          refine h_one 10 rfl rfl (by kernel_rfl) rfl (r_load (v := .int .i64 (iat (membersG g f.b) (iat f.why 0))) rfl Tryz.isAgg3 rfl ((hmem.keep RInt.kept (Ext0.cells hEm)).int _ hwi.1 hwi.2)) ⟨hK, hE⟩ ?_
          refine h_listed (listed' := #[T',T',T',T',T',T',T',T',T',T',T',F',F',T',F']) (by kernel_rfl) ?_
          refine h_t 11 rfl rfl (by kernel_rfl) (fun _ _ _ h => h) ⟨hK, hE⟩ rfl (fun W hW => r_indexAddr_sl rfl Tryz.underlying22 Tryz.sizeOf46 rfl hg.is rfl hch.1 hch.2.1) ?_
          refine h_listed (listed' := #[T',T',T',T',T',T',T',T',T',T',T',T',F',T',F']) (by kernel_rfl) ?_
          refine h_t 12 rfl rfl (by kernel_rfl) (fun _ _ _ h => h) ⟨hK, hE⟩ rfl (fun W hW => r_load_agg (vs := nodeCells t Bk dk Bl dl) rfl Tryz.isAgg46 Tryz.sizeOf46 rfl (fun j v hj => (Ext0.cells hW.2) _ _ (hcell2 j v hj))) ?_
          refine h_listed (listed' := #[T',T',T',T',T',T',T',T',T',T',T',T',T',T',F']) (by kernel_rfl) ?_
          refine h_new_do 14 rfl rfl (by kernel_rfl) rfl (r_store 0 rfl Tryz.sizeOf46 rfl hL hE rfl rfl rfl rfl (fun h => absurd h (Nat.not_lt.2 hb9))) ?_
          rintro w ⟨hL, hE, hz, hk⟩; replace hL : Has w [.blk b9 (.cells (nodeCells t Bk dk Bl dl).toArray 46 (0, 0)), .blk b6 (.cells (nodeCells s Ak ck Al cl).toArray 46 (0, 0)), .blk b3 (.cells (factCells f Aw cw).toArray 43 (0, 0))] := hL
          have hK := hL.sub (.cons _ (.cons_cons _ (.cons_cons _ .slnil)))
          refine ⟨⟨hK, hE⟩, ?_⟩
          refine h_listed (listed' := #[T',T',T',T',T',T',T',T',T',T',T',T',T',T',T']) (by kernel_rfl) ?_
          refine h_done (by kernel_rfl) ?_
          refine ⟨by repeat (first | exact Agree.over _ _ _ | exact Agree.refl _ _ | (refine Agree.puto ?_ _ _ rfl) | (refine Agree.put ?_ _ _ rfl) | (refine Agree.sub ?_ rfl)), ?_⟩
          exact ⟨b9, rfl, (((hL.front 2 rfl).front 2 rfl).front 2 rfl), hE⟩
      rintro e w hI
      obtain ⟨b9, h9s, hL, hE⟩ := hI
      refine c_know (t := 9) (by exact h9s) ?_
      refine c_seq ?_
      refine c_merge [66, 67, 68, 69, 70, 71, 72, 73] (fun e w => e 73 = .bool (decide (s.kind = 1) || decide (t.kind = 1)) ∧ Has w [.blk b9 (.cells (nodeCells t Bk dk Bl dl).toArray 46 (0, 0)), .blk b6 (.cells (nodeCells s Ak ck Al cl).toArray 46 (0, 0)), .blk b3 (.cells (factCells f Aw cw).toArray 43 (0, 0))] ∧ Ext0 w0 w) ?_ ?_
      · skip
     
        refine c_ops ?_
        refine l_val rfl rfl rfl (r_fieldAddr (n := 0) rfl Tryz.underlying46 rfl Tryz.sizeOf3 rfl) ?_
        refine l_val rfl rfl rfl (r_load_blk rfl Tryz.isAgg3 rfl (hL.get 1 rfl) rfl) ?_
        refine l_val rfl rfl rfl (r_eql rfl rfl rfl) ?_
        refine l_val rfl rfl rfl (r_move rfl) ?_
        refine l_case 69 rfl (fun hb => ?_) (fun hb => ?_)
        · have hr69 := hb
          replace hb := of_decide_eq_true hb
          refine l_not rfl rfl rfl ?_
          refine l_not rfl rfl rfl ?_
          refine l_not rfl rfl rfl ?_
          refine l_val rfl rfl rfl (r_pick rfl rfl) ?_
          refine l_nil ?_
          refine ⟨by repeat (first | exact Agree.over _ _ _ | exact Agree.refl _ _ | (refine Agree.puto ?_ _ _ rfl) | (refine Agree.put ?_ _ _ rfl) | (refine Agree.sub ?_ rfl)), ?_⟩
          exact ⟨congrArg Value.bool (by simp only [oddR, hr69, Bool.true_and, Bool.and_true, Bool.false_and, Bool.and_false, Bool.true_or, Bool.or_true, Bool.false_or, Bool.or_false, Bool.not_true, Bool.not_false, cond_true, cond_false]), hL, hE⟩
        · have hr69 := hb
          replace hb := of_decide_eq_false hb
          refine l_val rfl rfl rfl (r_fieldAddr (n := 0) rfl Tryz.underlying46 rfl Tryz.sizeOf3 rfl) ?_
          refine l_val rfl rfl rfl (r_load_blk rfl Tryz.isAgg3 rfl (hL.get 0 rfl) rfl) ?_
          refine l_val rfl rfl rfl (r_eql rfl rfl rfl) ?_
          refine l_val rfl rfl rfl (r_pick rfl rfl) ?_
          refine l_nil ?_
          refine ⟨by repeat (first | exact Agree.over _ _ _ | exact Agree.refl _ _ | (refine Agree.puto ?_ _ _ rfl) | (refine Agree.put ?_ _ _ rfl) | (refine Agree.sub ?_ rfl)), ?_⟩
          exact ⟨congrArg Value.bool (by simp only [oddR, hr69, Bool.true_and, Bool.and_true, Bool.false_and, Bool.and_false, Bool.true_or, Bool.or_true, Bool.false_or, Bool.or_false, Bool.not_true, Bool.not_false, cond_true, cond_false]), hL, hE⟩
      rintro e w hI
      obtain ⟨h73, hL, hE⟩ := hI
      refine c_know (t := 73) (by exact h73) ?_
      refine c_cond rfl (fun hb => ?_) (fun hb => ?_)
      · have hr73 := hb
        have hby := hby3 (by simpa using hb)
        refine c_seq ?_
     
        refine c_ops ?_
        refine l_val rfl rfl rfl (r_assign rfl) ?_
        refine l_val rfl rfl rfl (r_assign rfl) ?_
        refine l_nil ?_
        refine c_ret ?_
        rw [hby]; exact ⟨_, rfl, nil_row _ _ _ _, hE⟩
      · have hr73 := hb
        have h11 : ¬ (s.kind = 1 ∨ t.kind = 1) := by simpa using hb
        have hby := hby4 h11
        have hodd := oddR_eq his hit
        refine c_skip ?_
        refine c_seq ?_
        refine c_merge [74, 75, 76, 77, 78, 79, 80, 81, 82, 83, 84, 85, 86, 87, 88, 89, 90, 91, 92, 93, 94, 95, 96, 97, 98, 99, 100, 101, 102] (fun e w => e 102 = .bool (oddR s t) ∧ Has w [.blk b9 (.cells (nodeCells t Bk dk Bl dl).toArray 46 (0, 0)), .blk b6 (.cells (nodeCells s Ak ck Al cl).toArray 46 (0, 0)), .blk b3 (.cells (factCells f Aw cw).toArray 43 (0, 0))] ∧ Ext0 w0 w) ?_ ?_
        · skip
       
          refine c_ops ?_
          refine l_val rfl rfl rfl (r_fieldAddr (n := 0) rfl Tryz.underlying46 rfl Tryz.sizeOf3 rfl) ?_
          refine l_val rfl rfl rfl (r_load_blk rfl Tryz.isAgg3 rfl (hL.get 1 rfl) rfl) ?_
          refine l_val rfl rfl rfl (r_fieldAddr (n := 0) rfl Tryz.underlying46 rfl Tryz.sizeOf3 rfl) ?_
          refine l_val rfl rfl rfl (r_load_blk rfl Tryz.isAgg3 rfl (hL.get 0 rfl) rfl) ?_
          refine l_val rfl rfl rfl (r_neq rfl rfl rfl) ?_
          refine l_val rfl rfl rfl (r_move rfl) ?_
          refine l_case 79 rfl (fun hb => ?_) (fun hb => ?_)
          · have hr79 := hb
            replace hb := of_decide_eq_false (by simpa using hb)
            refine l_not rfl rfl rfl ?_
            refine l_not rfl rfl rfl ?_
            refine l_not rfl rfl rfl ?_
            refine l_not rfl rfl rfl ?_
            refine l_not rfl rfl rfl ?_
            refine l_not rfl rfl rfl ?_
            refine l_not rfl rfl rfl ?_
            refine l_not rfl rfl rfl ?_
            refine l_not rfl rfl rfl ?_
            refine l_not rfl rfl rfl ?_
            refine l_val rfl rfl rfl (r_pick rfl rfl) ?_
            refine l_val rfl rfl rfl (r_move rfl) ?_
            refine l_not rfl rfl rfl ?_
            refine l_not rfl rfl rfl ?_
            refine l_not rfl rfl rfl ?_
            refine l_not rfl rfl rfl ?_
            refine l_not rfl rfl rfl ?_
            refine l_not rfl rfl rfl ?_
            refine l_not rfl rfl rfl ?_
            refine l_not rfl rfl rfl ?_
            refine l_not rfl rfl rfl ?_
            refine l_not rfl rfl rfl ?_
            refine l_val rfl rfl rfl (r_pick rfl rfl) ?_
            refine l_nil ?_
            refine ⟨by repeat (first | exact Agree.over _ _ _ | exact Agree.refl _ _ | (refine Agree.puto ?_ _ _ rfl) | (refine Agree.put ?_ _ _ rfl) | (refine Agree.sub ?_ rfl)), ?_⟩
            exact ⟨congrArg Value.bool (by simp only [oddR, hr79, Bool.true_and, Bool.and_true, Bool.false_and, Bool.and_false, Bool.true_or, Bool.or_true, Bool.false_or, Bool.or_false, Bool.not_true, Bool.not_false, cond_true, cond_false]), hL, hE⟩
          · have hr79 := hb
            replace hb := of_decide_eq_true (by simpa using hb)
            refine l_val rfl rfl rfl (r_fieldAddr (n := 0) rfl Tryz.underlying46 rfl Tryz.sizeOf3 rfl) ?_
            refine l_val rfl rfl rfl (r_load_blk rfl Tryz.isAgg3 rfl (hL.get 1 rfl) rfl) ?_
            refine l_val rfl rfl rfl (r_eql rfl rfl rfl) ?_
            refine l_val rfl rfl rfl (r_move rfl) ?_
            refine l_case 83 rfl (fun hb => ?_) (fun hb => ?_)
            · have hr83 := hb
              replace hb := of_decide_eq_true hb
              refine l_val rfl rfl rfl (r_fieldAddr (n := 0) rfl Tryz.underlying46 rfl Tryz.sizeOf9 rfl) ?_
              refine l_val rfl rfl rfl (r_load_blk rfl Tryz.isAgg9 rfl (hL.get 1 rfl) rfl) ?_
              refine l_val rfl rfl rfl (r_fieldAddr (n := 0) rfl Tryz.underlying46 rfl Tryz.sizeOf9 rfl) ?_
              refine l_val rfl rfl rfl (r_load_blk rfl Tryz.isAgg9 rfl (hL.get 0 rfl) rfl) ?_
              refine l_val rfl rfl rfl (r_sneq rfl rfl rfl) ?_
              refine l_val rfl rfl rfl (r_pick rfl rfl) ?_
              refine l_val rfl rfl rfl (r_pick rfl rfl) ?_
              refine l_val rfl rfl rfl (r_move rfl) ?_
              refine l_case 91 rfl (fun hb => ?_) (fun hb => ?_)
              · have hr91 := hb
                replace hb := of_decide_eq_false (by simpa using hb)
                refine l_not rfl rfl rfl ?_
                refine l_not rfl rfl rfl ?_
                refine l_not rfl rfl rfl ?_
                refine l_not rfl rfl rfl ?_
                refine l_not rfl rfl rfl ?_
                refine l_not rfl rfl rfl ?_
                refine l_not rfl rfl rfl ?_
                refine l_not rfl rfl rfl ?_
                refine l_not rfl rfl rfl ?_
                refine l_not rfl rfl rfl ?_
                refine l_val rfl rfl rfl (r_pick rfl rfl) ?_
                refine l_nil ?_
                refine ⟨by repeat (first | exact Agree.over _ _ _ | exact Agree.refl _ _ | (refine Agree.puto ?_ _ _ rfl) | (refine Agree.put ?_ _ _ rfl) | (refine Agree.sub ?_ rfl)), ?_⟩
                exact ⟨congrArg Value.bool (by simp only [oddR, hr79, hr83, hr91, Bool.true_and, Bool.and_true, Bool.false_and, Bool.and_false, Bool.true_or, Bool.or_true, Bool.false_or, Bool.or_false, Bool.not_true, Bool.not_false, cond_true, cond_false]), hL, hE⟩
              · have hr91 := hb
                replace hb := of_decide_eq_true (by simpa using hb)
                refine l_val rfl rfl rfl (r_fieldAddr (n := 0) rfl Tryz.underlying46 rfl Tryz.sizeOf3 rfl) ?_
                refine l_val rfl rfl rfl (r_load_blk rfl Tryz.isAgg3 rfl (hL.get 1 rfl) rfl) ?_
                refine l_val rfl rfl rfl (r_eql rfl rfl rfl) ?_
                refine l_val rfl rfl rfl (r_move rfl) ?_
                refine l_case 95 rfl (fun hb => ?_) (fun hb => ?_)
                · have hr95 := hb
                  replace hb := of_decide_eq_true hb
                  refine l_val rfl rfl rfl (r_fieldAddr (n := 0) rfl Tryz.underlying46 rfl Tryz.sizeOf3 rfl) ?_
                  refine l_val rfl rfl rfl (r_load_blk rfl Tryz.isAgg3 rfl (hL.get 1 rfl) rfl) ?_
                  refine l_val rfl rfl rfl (r_fieldAddr (n := 0) rfl Tryz.underlying46 rfl Tryz.sizeOf3 rfl) ?_
                  refine l_val rfl rfl rfl (r_load_blk rfl Tryz.isAgg3 rfl (hL.get 0 rfl) rfl) ?_
                  refine l_val rfl rfl rfl (r_neq rfl rfl rfl) ?_
                  refine l_val rfl rfl rfl (r_pick rfl rfl) ?_
                  refine l_val rfl rfl rfl (r_pick rfl rfl) ?_
                  refine l_nil ?_
                  refine ⟨by repeat (first | exact Agree.over _ _ _ | exact Agree.refl _ _ | (refine Agree.puto ?_ _ _ rfl) | (refine Agree.put ?_ _ _ rfl) | (refine Agree.sub ?_ rfl)), ?_⟩
                  exact ⟨congrArg Value.bool (by simp only [oddR, hr79, hr83, hr91, hr95, Bool.true_and, Bool.and_true, Bool.false_and, Bool.and_false, Bool.true_or, Bool.or_true, Bool.false_or, Bool.or_false, Bool.not_true, Bool.not_false, cond_true, cond_false]), hL, hE⟩
                · have hr95 := hb
                  replace hb := of_decide_eq_false hb
                  refine l_not rfl rfl rfl ?_
                  refine l_not rfl rfl rfl ?_
                  refine l_not rfl rfl rfl ?_
                  refine l_not rfl rfl rfl ?_
                  refine l_not rfl rfl rfl ?_
                  refine l_val rfl rfl rfl (r_pick rfl rfl) ?_
                  refine l_val rfl rfl rfl (r_pick rfl rfl) ?_
                  refine l_nil ?_
                  refine ⟨by repeat (first | exact Agree.over _ _ _ | exact Agree.refl _ _ | (refine Agree.puto ?_ _ _ rfl) | (refine Agree.put ?_ _ _ rfl) | (refine Agree.sub ?_ rfl)), ?_⟩
                  exact ⟨congrArg Value.bool (by simp only [oddR, hr79, hr83, hr91, hr95, Bool.true_and, Bool.and_true, Bool.false_and, Bool.and_false, Bool.true_or, Bool.or_true, Bool.false_or, Bool.or_false, Bool.not_true, Bool.not_false, cond_true, cond_false]), hL, hE⟩
            · have hr83 := hb
              replace hb := of_decide_eq_false hb
              refine l_not rfl rfl rfl ?_
              refine l_not rfl rfl rfl ?_
              refine l_not rfl rfl rfl ?_
              refine l_not rfl rfl rfl ?_
              refine l_not rfl rfl rfl ?_
              refine l_val rfl rfl rfl (r_pick rfl rfl) ?_
              refine l_val rfl rfl rfl (r_pick rfl rfl) ?_
              refine l_val rfl rfl rfl (r_move rfl) ?_
              refine l_val rfl rfl rfl (r_fieldAddr (n := 0) rfl Tryz.underlying46 rfl Tryz.sizeOf3 rfl) ?_
              refine l_val rfl rfl rfl (r_load_blk rfl Tryz.isAgg3 rfl (hL.get 1 rfl) rfl) ?_
              refine l_val rfl rfl rfl (r_eql rfl rfl rfl) ?_
              refine l_val rfl rfl rfl (r_move rfl) ?_
              refine l_case 95 rfl (fun hb => ?_) (fun hb => ?_)
              · have hr95 := hb
                replace hb := of_decide_eq_true hb
                refine l_val rfl rfl rfl (r_fieldAddr (n := 0) rfl Tryz.underlying46 rfl Tryz.sizeOf3 rfl) ?_
                refine l_val rfl rfl rfl (r_load_blk rfl Tryz.isAgg3 rfl (hL.get 1 rfl) rfl) ?_
                refine l_val rfl rfl rfl (r_fieldAddr (n := 0) rfl Tryz.underlying46 rfl Tryz.sizeOf3 rfl) ?_
                refine l_val rfl rfl rfl (r_load_blk rfl Tryz.isAgg3 rfl (hL.get 0 rfl) rfl) ?_
                refine l_val rfl rfl rfl (r_neq rfl rfl rfl) ?_
                refine l_val rfl rfl rfl (r_pick rfl rfl) ?_
                refine l_val rfl rfl rfl (r_pick rfl rfl) ?_
                refine l_nil ?_
                refine ⟨by repeat (first | exact Agree.over _ _ _ | exact Agree.refl _ _ | (refine Agree.puto ?_ _ _ rfl) | (refine Agree.put ?_ _ _ rfl) | (refine Agree.sub ?_ rfl)), ?_⟩
                exact ⟨congrArg Value.bool (by simp only [oddR, hr79, hr83, hr95, Bool.true_and, Bool.and_true, Bool.false_and, Bool.and_false, Bool.true_or, Bool.or_true, Bool.false_or, Bool.or_false, Bool.not_true, Bool.not_false, cond_true, cond_false]), hL, hE⟩
              · have hr95 := hb
                replace hb := of_decide_eq_false hb
                refine l_not rfl rfl rfl ?_
                refine l_not rfl rfl rfl ?_
                refine l_not rfl rfl rfl ?_
                refine l_not rfl rfl rfl ?_
                refine l_not rfl rfl rfl ?_
                refine l_val rfl rfl rfl (r_pick rfl rfl) ?_
                refine l_val rfl rfl rfl (r_pick rfl rfl) ?_
                refine l_nil ?_
                refine ⟨by repeat (first | exact Agree.over _ _ _ | exact Agree.refl _ _ | (refine Agree.puto ?_ _ _ rfl) | (refine Agree.put ?_ _ _ rfl) | (refine Agree.sub ?_ rfl)), ?_⟩
                exact ⟨congrArg Value.bool (by simp only [oddR, hr79, hr83, hr95, Bool.true_and, Bool.and_true, Bool.false_and, Bool.and_false, Bool.true_or, Bool.or_true, Bool.false_or, Bool.or_false, Bool.not_true, Bool.not_false, cond_true, cond_false]), hL, hE⟩
        rintro e w hI
        obtain ⟨h102, hL, hE⟩ := hI
        refine c_know (t := 102) (by exact h102) ?_
        refine c_cond rfl (fun hb => ?_) (fun hb => ?_)
        · have hr102 := hb
          rw [show plainR s t = ([], false) by unfold plainR; rw [if_pos (by rw [← hodd]; exact hb)]] at hby
          refine c_seq ?_
       
          refine c_ops ?_
          refine l_val rfl rfl rfl (r_assign rfl) ?_
          refine l_val rfl rfl rfl (r_assign rfl) ?_
          refine l_nil ?_
          refine c_ret ?_
          rw [hby]; exact ⟨_, rfl, nil_row _ _ _ _, hE⟩
        · have hr102 := hb
          have hst : s.kind = t.kind := by
            have h := hb
            unfold oddR at h
            rw [Bool.or_eq_false_iff, Bool.or_eq_false_iff] at h
            simpa using h.1.1
          have hp : plainR s t = if s.kind = 9 then ([(iat s.l 0, iat t.l 0)], true) else match plainOn s (t.keys.zip t.l) with
            | none => ([], false)
            | some on => (on, true) := by unfold plainR; rw [if_neg (by rw [← hodd, hb]; decide)]; rfl
          refine c_skip ?_
          refine c_seq ?_
          refine c_seq ?_
       
          refine c_ops ?_
          refine l_val rfl rfl rfl (r_fieldAddr (n := 0) rfl Tryz.underlying46 rfl Tryz.sizeOf3 rfl) ?_
          refine l_val rfl rfl rfl (r_load_blk rfl Tryz.isAgg3 rfl (hL.get 1 rfl) rfl) ?_
          refine l_val rfl rfl rfl (r_eql rfl rfl rfl) ?_
          refine l_nil ?_
          refine c_cond rfl (fun hb => ?_) (fun hb => ?_)
          · have hr105 := hb
            replace hb := of_decide_eq_true hb
            rw [hp, if_pos hb] at hby
            have hs1 := hside.var hb
            have ht1 := htside.var (hst ▸ hb)
            refine c_seq ?_
         
            refine c_draw mixed (hL) hE ?_
            replace hL := hL.drew
            replace hE := hE.drew
            have hK := hL
            refine h_t 0 rfl rfl (by kernel_rfl) (fun _ _ _ h => h) ⟨hK, hE⟩ rfl (fun W hW => r_fieldAddr (n := 0) rfl Tryz.underlying46 rfl Tryz.sizeOf26 rfl) ?_
            refine h_listed (listed' := #[T',F',F',F',F',F',F',F',F',F',F',F']) (by kernel_rfl) ?_
            refine h_t 1 rfl rfl (by kernel_rfl) (fun _ _ _ h => h) ⟨hK, hE⟩ rfl (fun W hW => r_load_blk rfl Tryz.isAgg26 rfl (hW.1.get 1 rfl) rfl) ?_
            refine h_listed (listed' := #[T',T',F',F',F',F',F',F',F',F',F',F']) (by kernel_rfl) ?_
            refine h_t 2 rfl rfl (by kernel_rfl) (fun _ _ _ h => h) ⟨hK, hE⟩ rfl (fun W hW => r_indexAddr_sl rfl Tryz.underlying26 Tryz.sizeOf3 rfl hsl.is rfl (by omega) (by omega)) ?_
            refine h_listed (listed' := #[T',T',T',F',F',F',F',F',F',F',F',F']) (by kernel_rfl) ?_
            refine h_t 3 rfl rfl (by kernel_rfl) (fun _ _ _ h => h) ⟨hK, hE⟩ rfl (fun W hW => r_load (v := .int .i64 (iat s.l 0)) rfl Tryz.isAgg3 rfl ((hsl.keep RInt.kept (Ext0.cells hW.2)).int 0 (by omega) (by omega))) ?_
            refine h_listed (listed' := #[T',T',T',T',F',F',F',F',F',F',F',F']) (by kernel_rfl) ?_
            refine h_t 4 rfl rfl (by kernel_rfl) (fun _ _ _ h => h) ⟨hK, hE⟩ rfl (fun W hW => r_fieldAddr (n := 0) rfl Tryz.underlying46 rfl Tryz.sizeOf26 rfl) ?_
            refine h_listed (listed' := #[T',T',T',T',T',F',F',F',F',F',F',F']) (by kernel_rfl) ?_
            refine h_t 5 rfl rfl (by kernel_rfl) (fun _ _ _ h => h) ⟨hK, hE⟩ rfl (fun W hW => r_load_blk rfl Tryz.isAgg26 rfl (hW.1.get 0 rfl) rfl) ?_
            refine h_listed (listed' := #[T',T',T',T',T',T',F',F',F',F',F',F']) (by kernel_rfl) ?_
            refine h_t 6 rfl rfl (by kernel_rfl) (fun _ _ _ h => h) ⟨hK, hE⟩ rfl (fun W hW => r_indexAddr_sl rfl Tryz.underlying26 Tryz.sizeOf3 rfl htl.is rfl (by omega) (by omega)) ?_
            refine h_listed (listed' := #[T',T',T',T',T',T',T',F',F',F',F',F']) (by kernel_rfl) ?_
            refine h_t 7 rfl rfl (by kernel_rfl) (fun _ _ _ h => h) ⟨hK, hE⟩ rfl (fun W hW => r_load (v := .int .i64 (iat t.l 0)) rfl Tryz.isAgg3 rfl ((htl.keep RInt.kept (Ext0.cells hW.2)).int 0 (by omega) (by omega))) ?_
            refine h_listed (listed' := #[T',T',T',T',T',T',T',T',F',F',F',F']) (by kernel_rfl) ?_
            refine h_t 8 rfl rfl (by kernel_rfl) (fun _ _ _ h => h) ⟨hK, hE⟩ rfl (fun W hW => r_build rfl rfl (built_pr _ _)) ?_
            refine h_listed (listed' := #[T',T',T',T',T',T',T',T',T',F',F',F']) (by kernel_rfl) ?_
            refine h_new 9 rfl rfl (by kernel_rfl) rfl (n_slice (cells := #[.int .i64 (iat s.l 0), .int .i64 (iat t.l 0)]) rfl Tryz.underlying23 Tryz.sizeOf32 Tryz.zeroValue32 rfl rfl (fill_pair _ _) hL hE) ?_
            rintro _ w ⟨s115, rfl, hs115, hL, hE, hX⟩
            first | replace hEm := Ext.trans hEm hX | skip
            have hK := hL.sub (.cons _ (.cons_cons _ (.cons_cons _ (.cons_cons _ .slnil))))
            refine ⟨⟨hK, hE⟩, ?_⟩
            refine h_listed (listed' := #[T',T',T',T',T',T',T',T',T',T',F',F']) (by kernel_rfl) ?_
            refine h_t 10 rfl rfl (by kernel_rfl) (fun _ _ _ h => h) ⟨hK, hE⟩ rfl (fun W hW => r_assign rfl) ?_
            refine h_listed (listed' := #[T',T',T',T',T',T',T',T',T',T',T',F']) (by kernel_rfl) ?_
            refine h_t 11 rfl rfl (by kernel_rfl) (fun _ _ _ h => h) ⟨hK, hE⟩ rfl (fun W hW => r_assign rfl) ?_
            refine h_listed (listed' := #[T',T',T',T',T',T',T',T',T',T',T',T']) (by kernel_rfl) ?_
            refine h_done (by kernel_rfl) ?_
            refine c_ret ?_
            rw [hby]; exact ⟨_, rfl, (Has.asRow (n := 1) (sz := 2) hL hs115 rfl (by decide)).row 0 rfl, hE⟩
          · have hr105 := hb
            replace hb := of_decide_eq_false hb
            rw [if_neg hb] at hp
            replace hL := hL.nilRow w0.heap.size 32 2
            refine c_skip ?_
            refine c_seq ?_
            refine c_seq ?_
         
            refine c_ops ?_
            refine l_val rfl rfl rfl (r_assign rfl) ?_
            refine l_nil ?_
            refine c_block ?_
         
            refine c_loop0 (fun m1 e w => (e 0 = .slice Ag g.length cg ∧ e 3 = .pointer (some ⟨b3, 0, none⟩) ∧ e 6 = .pointer (some ⟨b6, 0, none⟩) ∧ e 9 = .pointer (some ⟨b9, 0, none⟩)) ∧ ∃ (k : Nat) (A5 : Option Addr) (c5 : Nat) (on : FP), k ≤ t.keys.length ∧ m1 = t.keys.length - k ∧ e 10 = .int .i64 (k : Nat) ∧ e 7 = .slice A5 on.length c5 ∧ on.length = k ∧ plainOn s (t.keys.zip t.l) = (plainOn s ((t.keys.zip t.l).drop k)).map (on ++ ·) ∧ Has w [.row w0.heap.size 32 2 (.slice A5 on.length c5) (on).length ((on).map cells2).flatten, .blk b9 (.cells (nodeCells t Bk dk Bl dl).toArray 46 (0, 0)), .blk b6 (.cells (nodeCells s Ak ck Al cl).toArray 46 (0, 0)), .blk b3 (.cells (factCells f Aw cw).toArray 43 (0, 0))] ∧ Ext0 w0 w) (t.keys.length) ?_ ?_
            · exact ⟨⟨rfl, rfl, rfl, rfl⟩, 0, none, 0, [], Nat.zero_le _, rfl, rfl, rfl, rfl, by simp, hL, hE⟩
            rintro m1 e w ⟨⟨hq0, hq3, hq6, hq9⟩, hI⟩
            refine c_know (t := 0) (by exact hq0) ?_
            refine c_know (t := 3) (by exact hq3) ?_
            refine c_know (t := 6) (by exact hq6) ?_
            refine c_know (t := 9) (by exact hq9) ?_
            clear hq0 hq3 hq6 hq9
            obtain ⟨k, A5, c5, on, hkl, hkm, h10s, h7s, honl, hon, hL, hE⟩ := hI
            refine c_know (t := 10) (by exact h10s) ?_
            refine c_know (t := 7) (by exact h7s) ?_
            refine c_seq ?_
            refine c_seq ?_
         
            refine c_ops ?_
            refine l_val rfl rfl rfl (r_move rfl) ?_
            refine l_val rfl rfl rfl (r_fieldAddr (n := 0) rfl Tryz.underlying46 rfl Tryz.sizeOf44 rfl) ?_
            refine l_val rfl rfl rfl (r_load_blk rfl Tryz.isAgg44 rfl (hL.get 1 rfl) rfl) ?_
            refine l_val rfl rfl rfl (r_len rfl Tryz.underlying44 rfl) ?_
            refine l_val rfl rfl rfl (r_lss rfl rfl rfl) ?_
            refine l_nil ?_
            refine c_cond rfl (fun hb => ?_) (fun hb => ?_)
            · have hr120 := hb
              replace hb := of_decide_eq_true hb
              have hklt : k < t.keys.length := by omega
              have hky := hit.keys hklt
              have hs7 : s.kind = 7 := by omega
              have hsr : risesB s.keys = true := by rcases his with ⟨h, _⟩ | ⟨h, _⟩ | ⟨h, hl, hr, _⟩ | ⟨h, _⟩ | ⟨h, _⟩ <;> first | exact hr | omega
              have hsll := hside.rcd hs7
              obtain ⟨key, hkey⟩ : ∃ key, key = kat t.keys k := ⟨_, rfl⟩
              have hstep := plainOn_step s (hkey ▸ kat_some hklt) (iat_nat (show k < t.l.length by omega))
              have hlt := idxS_lt s.keys key
              refine c_skip ?_
              refine c_seq ?_
              refine c_block ?_
              refine c_seq ?_
           
              refine c_ops ?_
              refine l_val rfl rfl rfl (r_assign rfl) ?_
              refine l_nil ?_
              refine c_seq ?_
              refine c_seq ?_
           
              refine c_ops ?_
              refine l_val rfl rfl rfl (r_assign rfl) ?_
              refine l_nil ?_
              refine c_block ?_
           
              refine c_loop0 (fun m1 e w => (e 0 = .slice Ag g.length cg ∧ e 3 = .pointer (some ⟨b3, 0, none⟩) ∧ e 6 = .pointer (some ⟨b6, 0, none⟩) ∧ e 9 = .pointer (some ⟨b9, 0, none⟩) ∧ e 7 = .slice A5 on.length c5 ∧ e 10 = .int .i64 (k : Nat)) ∧ ∃ (j : Nat) (at_ : Int), j ≤ s.keys.length ∧ m1 = s.keys.length - j ∧ e 12 = .int .i64 (j : Nat) ∧ e 11 = .int .i64 at_ ∧ LastAt s key j at_ ∧ Has w [.row w0.heap.size 32 2 (.slice A5 on.length c5) (on).length ((on).map cells2).flatten, .blk b9 (.cells (nodeCells t Bk dk Bl dl).toArray 46 (0, 0)), .blk b6 (.cells (nodeCells s Ak ck Al cl).toArray 46 (0, 0)), .blk b3 (.cells (factCells f Aw cw).toArray 43 (0, 0))] ∧ Ext0 w0 w) (s.keys.length) ?_ ?_
              · exact ⟨⟨rfl, rfl, rfl, rfl, rfl, rfl⟩, 0, -1, Nat.zero_le _, rfl, rfl, rfl, LastAt.zero _ _, hL, hE⟩
              rintro m1 e w ⟨⟨hq0, hq3, hq6, hq9, hq7, hq10⟩, hI⟩
              refine c_know (t := 0) (by exact hq0) ?_
              refine c_know (t := 3) (by exact hq3) ?_
              refine c_know (t := 6) (by exact hq6) ?_
              refine c_know (t := 9) (by exact hq9) ?_
              refine c_know (t := 7) (by exact hq7) ?_
              refine c_know (t := 10) (by exact hq10) ?_
              clear hq0 hq3 hq6 hq9 hq7 hq10
              obtain ⟨j, at_, hjl, hjm, h12s, h11s, hat, hL, hE⟩ := hI
              refine c_know (t := 12) (by exact h12s) ?_
              refine c_know (t := 11) (by exact h11s) ?_
              refine c_seq ?_
              refine c_seq ?_
           
              refine c_ops ?_
              refine l_val rfl rfl rfl (r_move rfl) ?_
              refine l_val rfl rfl rfl (r_fieldAddr (n := 0) rfl Tryz.underlying46 rfl Tryz.sizeOf44 rfl) ?_
              refine l_val rfl rfl rfl (r_load_blk rfl Tryz.isAgg44 rfl (hL.get 2 rfl) rfl) ?_
              refine l_val rfl rfl rfl (r_len rfl Tryz.underlying44 rfl) ?_
              refine l_val rfl rfl rfl (r_lss rfl rfl rfl) ?_
              refine l_nil ?_
              refine c_cond rfl (fun hb => ?_) (fun hb => ?_)
              · have hr127 := hb
                replace hb := of_decide_eq_true hb
                have hjlt : j < s.keys.length := by omega
                refine c_skip ?_
                refine c_seq ?_
                refine c_block ?_
                refine c_seq ?_
             
                refine c_draw mixed (hL) hE ?_
                replace hL := hL.drew
                replace hE := hE.drew
                have hK := hL
                refine h_t 0 rfl rfl (by kernel_rfl) (fun _ _ _ h => h) ⟨hK, hE⟩ rfl (fun W hW => r_fieldAddr (n := 0) rfl Tryz.underlying46 rfl Tryz.sizeOf44 rfl) ?_
                refine h_t 1 rfl rfl (by kernel_rfl) (fun _ _ _ h => h) ⟨hK, hE⟩ rfl (fun W hW => r_load_blk rfl Tryz.isAgg44 rfl (hW.1.get 2 rfl) rfl) ?_
                refine h_t 2 rfl rfl (by kernel_rfl) (fun _ _ _ h => h) ⟨hK, hE⟩ rfl (fun W hW => r_move rfl) ?_
                refine h_t 3 rfl rfl (by kernel_rfl) (fun _ _ _ h => h) ⟨hK, hE⟩ rfl (fun W hW => r_indexAddr_sl rfl Tryz.underlying44 Tryz.sizeOf9 rfl hsk.is rfl (by omega) (by omega)) ?_
                refine h_t 4 rfl rfl (by kernel_rfl) (fun _ _ _ h => h) ⟨hK, hE⟩ rfl (fun W hW => r_load (v := .string (kat s.keys j)) rfl Tryz.isAgg9 rfl ((hsk.keep RStr.kept (Ext0.cells hW.2)).str j (by omega) (by omega))) ?_
                refine h_t 5 rfl rfl (by kernel_rfl) (fun _ _ _ h => h) ⟨hK, hE⟩ rfl (fun W hW => r_fieldAddr (n := 0) rfl Tryz.underlying46 rfl Tryz.sizeOf44 rfl) ?_
                refine h_t 6 rfl rfl (by kernel_rfl) (fun _ _ _ h => h) ⟨hK, hE⟩ rfl (fun W hW => r_load_blk rfl Tryz.isAgg44 rfl (hW.1.get 1 rfl) rfl) ?_
                refine h_t 7 rfl rfl (by kernel_rfl) (fun _ _ _ h => h) ⟨hK, hE⟩ rfl (fun W hW => r_move rfl) ?_
                refine h_t 8 rfl rfl (by kernel_rfl) (fun _ _ _ h => h) ⟨hK, hE⟩ rfl (fun W hW => r_indexAddr_sl rfl Tryz.underlying44 Tryz.sizeOf9 rfl htk.is rfl (by omega) (by omega)) ?_
                refine h_t 9 rfl rfl (by kernel_rfl) (fun _ _ _ h => h) ⟨hK, hE⟩ rfl (fun W hW => r_load (v := .string key) rfl Tryz.isAgg9 rfl (by rw [hkey]; exact (htk.keep RStr.kept (Ext0.cells hW.2)).str k (by omega) (by omega))) ?_
                refine h_t 10 rfl rfl (by kernel_rfl) (fun _ _ _ h => h) ⟨hK, hE⟩ rfl (fun W hW => r_seql rfl rfl rfl) ?_
                refine h_done (by kernel_rfl) ?_
                refine c_cond rfl (fun hb => ?_) (fun hb => ?_)
                · have hr140 := hb
                  replace hb := of_decide_eq_true hb
                  have hat3 : LastAt s key (j + 1) (iat s.l j) := LastAt.hit hb
               
                  refine c_ops ?_
                  refine l_val rfl rfl rfl (r_fieldAddr (n := 0) rfl Tryz.underlying46 rfl Tryz.sizeOf26 rfl) ?_
                  refine l_val rfl rfl rfl (r_load_blk rfl Tryz.isAgg26 rfl (hL.get 2 rfl) rfl) ?_
                  refine l_val rfl rfl rfl (r_move rfl) ?_
                  refine l_val rfl rfl rfl (r_indexAddr_sl rfl Tryz.underlying26 Tryz.sizeOf3 rfl hsl.is rfl (by omega) (by omega)) ?_
                  refine l_val rfl rfl rfl (r_load (v := .int .i64 (iat s.l j)) rfl Tryz.isAgg3 rfl ((hsl.keep RInt.kept (Ext0.cells hE)).int j (by omega) (by omega))) ?_
                  refine l_val rfl rfl rfl (r_assign rfl) ?_
                  refine l_nil ?_
               
                  refine c_ops ?_
                  refine l_val rfl rfl rfl (r_move rfl) ?_
                  refine l_val rfl rfl rfl (r_add rfl rfl rfl) ?_
                  refine l_val rfl rfl rfl (r_assign rfl) ?_
                  refine l_nil ?_
                  exact ⟨s.keys.length - (j + 1), by omega, ⟨rfl, rfl, rfl, rfl, rfl, rfl⟩, j + 1, _, by omega, rfl, by show Value.int .i64 (IntKind.i64.wrap ((j : Int) + 1)) = _; rw [wrap_succ hjlt hsk.max], rfl, hat3, hL, hE⟩
                · have hr140 := hb
                  replace hb := of_decide_eq_false hb
                  have hat3 := hat.miss hb
                  refine c_skip ?_
               
                  refine c_ops ?_
                  refine l_val rfl rfl rfl (r_move rfl) ?_
                  refine l_val rfl rfl rfl (r_add rfl rfl rfl) ?_
                  refine l_val rfl rfl rfl (r_assign rfl) ?_
                  refine l_nil ?_
                  exact ⟨s.keys.length - (j + 1), by omega, ⟨rfl, rfl, rfl, rfl, rfl, rfl⟩, j + 1, _, by omega, rfl, by show Value.int .i64 (IntKind.i64.wrap ((j : Int) + 1)) = _; rw [wrap_succ hjlt hsk.max], rfl, hat3, hL, hE⟩
              · have hr127 := hb
                replace hb := of_decide_eq_false hb
                obtain rfl : j = s.keys.length := by omega
                have hat2 := hat.is hsr
                subst hat2
                refine c_exit ?_
                refine c_seq ?_
                refine c_seq ?_
             
                refine c_ops ?_
                refine l_val rfl rfl rfl (r_move rfl) ?_
                refine l_val rfl rfl rfl (r_lss rfl rfl rfl) ?_
                refine l_nil ?_
                refine c_cond rfl (fun hb => ?_) (fun hb => ?_)
                · have hr147 := hb
                  replace hb := of_decide_eq_true hb
                  have hneg := fieldF_neg hside hsll hb
                  rw [hp, hon, hstep, if_pos hneg] at hby
                  refine c_seq ?_
               
                  refine c_ops ?_
                  refine l_val rfl rfl rfl (r_assign rfl) ?_
                  refine l_val rfl rfl rfl (r_assign rfl) ?_
                  refine l_nil ?_
                  refine c_ret ?_
                  rw [hby]; exact ⟨_, rfl, nil_row _ _ _ _, hE⟩
                · have hr147 := hb
                  replace hb := of_decide_eq_false hb
                  have hpos := fieldF_pos hside hsll hb
                  rw [hpos.2.1]
                  have hon2 : plainOn s (t.keys.zip t.l) = (plainOn s ((t.keys.zip t.l).drop (k + 1))).map ((on ++ [(iat s.l (idxV (idxS s.keys key)), iat t.l k)]) ++ ·) := by
                    rw [hon, hstep, if_neg hpos.1, Option.map_map]
                    congr 1
                    funext l
                    simp
                  refine c_skip ?_
               
                  refine c_ops ?_
                  refine l_val rfl rfl rfl (r_move rfl) ?_
                  refine l_val rfl rfl rfl (r_move rfl) ?_
                  refine l_val rfl rfl rfl (r_fieldAddr (n := 0) rfl Tryz.underlying46 rfl Tryz.sizeOf26 rfl) ?_
                  refine l_val rfl rfl rfl (r_load_blk rfl Tryz.isAgg26 rfl (hL.get 1 rfl) rfl) ?_
                  refine l_val rfl rfl rfl (r_move rfl) ?_
                  refine l_val rfl rfl rfl (r_indexAddr_sl rfl Tryz.underlying26 Tryz.sizeOf3 rfl htl.is rfl (by omega) (by omega)) ?_
                  refine l_val rfl rfl rfl (r_load (v := .int .i64 (iat t.l k)) rfl Tryz.isAgg3 rfl ((htl.keep RInt.kept (Ext0.cells hE)).int k (by omega) (by omega))) ?_
                  refine l_val rfl rfl rfl (r_build rfl rfl (built_pr _ _)) ?_
                  refine l_new rfl rfl rfl (n_slice (cells := #[.int .i64 (iat s.l (idxV (idxS s.keys key))), .int .i64 (iat t.l k)]) rfl Tryz.underlying23 Tryz.sizeOf32 Tryz.zeroValue32 rfl rfl (fill_pair _ _) hL hE) ?_
                  rintro _ w ⟨s156, rfl, hs156, hL, hE, hX⟩
                  first | replace hEm := Ext.trans hEm hX | skip
                  refine l_new rfl rfl rfl (r_append (ys := cells2 ((iat s.l (idxV (idxS s.keys key))), (iat t.l k))) 1 rfl Tryz.underlying23 info_pr rfl (by decide) rfl rfl hL hE rfl rfl (blk_raw (cs := #[.int .i64 (iat s.l (idxV (idxS s.keys key))), .int .i64 (iat t.l k)]) (hL.get 0 rfl) rfl) (fun u hu => by simp [cells2] at hu; rcases hu with rfl | rfl <;> rfl) (by omega) (by omega) (Nat.le_refl _) hE.size) ?_
                  rintro _ w ⟨hL, hE, hk⟩
                  obtain ⟨A8, c8, rfl⟩ := ownsRow_slice (hL.row 1 rfl)
                  replace hL : Has w [.blk s156 (.cells #[.int .i64 (iat s.l (idxV (idxS s.keys key))), .int .i64 (iat t.l k)] 32 (0, 0)), .row w0.heap.size 32 2 (.slice A8 (on ++ [((iat s.l (idxV (idxS s.keys key))), (iat t.l k))]).length c8) (on ++ [((iat s.l (idxV (idxS s.keys key))), (iat t.l k))]).length ((on ++ [((iat s.l (idxV (idxS s.keys key))), (iat t.l k))]).map cells2).flatten, .blk b9 (.cells (nodeCells t Bk dk Bl dl).toArray 46 (0, 0)), .blk b6 (.cells (nodeCells s Ak ck Al cl).toArray 46 (0, 0)), .blk b3 (.cells (factCells f Aw cw).toArray 43 (0, 0))] := by rw [← pairs_snoc, List.length_append]; exact hL
                  first | replace hEm := Ext.trans hEm hX | skip
                  refine l_val rfl rfl rfl (r_assign rfl) ?_
                  refine l_nil ?_
               
                  refine c_ops ?_
                  refine l_val rfl rfl rfl (r_move rfl) ?_
                  refine l_val rfl rfl rfl (r_add rfl rfl rfl) ?_
                  refine l_val rfl rfl rfl (r_assign rfl) ?_
                  refine l_nil ?_
                  exact ⟨t.keys.length - (k + 1), by omega, ⟨rfl, rfl, rfl, rfl⟩, k + 1, A8, c8, on ++ [(iat s.l (idxV (idxS s.keys key)), iat t.l k)], by omega, rfl, by show Value.int .i64 (IntKind.i64.wrap ((k : Int) + 1)) = _; rw [wrap_succ hklt htk.max], congrArg (fun n => Value.slice A8 n c8) (by rw [List.length_append]; rfl), by simp [honl], hon2, hL.tail, hE⟩
            · have hr120 := hb
              replace hb := of_decide_eq_false hb
              obtain rfl : k = t.keys.length := by omega
              rw [List.drop_eq_nil_of_le (by simp; omega)] at hon
              rw [hp, hon] at hby
              replace hby : byF g f = (on, true) := by rw [hby]; simp [plainOn]
              refine c_exit ?_
              refine c_seq ?_
           
              refine c_ops ?_
              refine l_val rfl rfl rfl (r_move rfl) ?_
              refine l_val rfl rfl rfl (r_assign rfl) ?_
              refine l_val rfl rfl rfl (r_assign rfl) ?_
              refine l_nil ?_
              refine c_ret ?_
              rw [hby]; exact ⟨_, rfl, by have := hL.row 0 rfl; exact this, hE⟩
end Go.Proofs.YtndophlnapjkhaaGreatDoor.Vc
namespace Go.Proofs.YtndophlnapjkhaaGreatDoor.Vc
open Go Go.RowKit
set_option linter.unusedVariables false
set_option linter.unusedSimpArgs false
theorem fat_ne {a b : List Fact} {k : Nat} (h : ¬ fat a k = fat b k) : a ≠ b := fun e => h (by rw [e])
theorem rSame_calls (w0 : World) (A : Option Addr) (c : Nat) (a : List Fact) (ha : FactsAt w0 A c a) (B : Option Addr) (d : Nat) (b : List Fact) (hb' : FactsAt w0 B d b) :
    Calls Tryz.prog 9 [.slice A a.length c, .slice B b.length d].toArray w0 fun en w' => en = .returned (.bool (decide (a = b))) ∧ Ext0 w0 w' := by
  have hE : Ext0 w0 w0 := Ext.refl _ _
  refine calls [4] Tryz.func9 rfl rfl rfl rfl ?_
  refine c_seq ?_
  refine c_ops ?_
  refine l_val rfl rfl rfl (r_assign rfl) ?_
  refine l_nil ?_
  refine c_seq ?_
  refine c_seq ?_
  refine c_ops ?_
  refine l_val rfl rfl rfl (r_move rfl) ?_
  refine l_val rfl rfl rfl (r_len rfl Tryz.underlying25 rfl) ?_
  refine l_val rfl rfl rfl (r_move rfl) ?_
  refine l_val rfl rfl rfl (r_len rfl Tryz.underlying25 rfl) ?_
  refine l_val rfl rfl rfl (r_neq rfl rfl rfl) ?_
  refine l_nil ?_
  refine c_cond rfl (fun hb => ?_) (fun hb => ?_)
  · have hr10 := hb
    replace hb := of_decide_eq_false (by simpa using hb)
    have hne : a ≠ b := fun e => hb (by rw [e])
    refine c_seq ?_
 
    refine c_ops ?_
    refine l_val rfl rfl rfl (r_assign rfl) ?_
    refine l_nil ?_
    refine c_ret ?_
    exact ⟨ret_bool rfl (decide_eq_false hne).symm, hE⟩
  · have hr10 := hb
    replace hb := of_decide_eq_true (by simpa using hb)
    have hll : a.length = b.length := by omega
    refine c_skip ?_
    refine c_seq ?_
    refine c_seq ?_
 
    refine c_ops ?_
    refine l_val rfl rfl rfl (r_assign rfl) ?_
    refine l_nil ?_
    refine c_block ?_
 
    refine c_loop [4, 5, 11, 12, 13, 14, 15, 16, 17, 18, 19, 20, 21, 22, 23, 24, 25, 26, 27, 28, 29, 30, 31, 32, 33, 34, 35, 36, 37, 38, 39, 40, 41, 42, 43, 44, 45, 46, 47, 48, 49, 50, 51, 52, 53, 54] (fun m1 e w => ∃ (k : Nat), k ≤ a.length ∧ m1 = a.length - k ∧ e 5 = .int .i64 (k : Nat) ∧ (∀ j : Nat, j < k → fat a j = fat b j) ∧ Ext0 w0 w) (a.length) ?_ ?_
    · exact ⟨0, Nat.zero_le _, rfl, rfl, fun j hj => absurd hj (Nat.not_lt_zero _), hE⟩
    intro m1 e w hI
    obtain ⟨k, hkl, hkm, h5s, hall, hE⟩ := hI
    refine c_know (t := 5) (by exact h5s) ?_
    have hL : Has w [] := trivial
    refine c_seq ?_
    refine c_seq ?_
 
    refine c_ops ?_
    refine l_val rfl rfl rfl (r_move rfl) ?_
    refine l_val rfl rfl rfl (r_move rfl) ?_
    refine l_val rfl rfl rfl (r_len rfl Tryz.underlying25 rfl) ?_
    refine l_val rfl rfl rfl (r_lss rfl rfl rfl) ?_
    refine l_nil ?_
    refine c_cond rfl (fun hb => ?_) (fun hb => ?_)
    · have hr14 := hb
      replace hb := of_decide_eq_true hb
      have hklt : k < a.length := by omega
      obtain ⟨A1, c1, hfa, hwa⟩ := ha.fact k (by omega) (by omega)
      obtain ⟨B1, d1, hfb, hwb⟩ := hb'.fact k (by omega) (by omega)
      refine c_skip ?_
      refine c_seq ?_
      refine c_block ?_
      refine c_seq ?_
   
      refine c_draw mixed (hL) hE ?_
      replace hL := hL.drew
      replace hE := hE.drew
      have hK := hL
      refine h_t 0 rfl rfl (by kernel_rfl) (fun _ _ _ h => h) ⟨hK, hE⟩ rfl (fun W hW => r_move rfl) ?_
      refine h_listed (listed' := #[T',F',F',F',F',F',F',F',F',F',F',F',F',F',F',F',F',F',F',F',F',F',F',F',F',F',F',F',F',F',F',F',F',F',F',F',F',F']) (by kernel_rfl) ?_
      refine h_t 1 rfl rfl (by kernel_rfl) (fun _ _ _ h => h) ⟨hK, hE⟩ rfl (fun W hW => r_move rfl) ?_
      refine h_listed (listed' := #[T',T',F',F',F',F',F',F',F',F',F',F',F',F',F',F',F',F',F',F',F',F',F',F',F',F',F',F',F',F',F',F',F',F',F',F',F',F']) (by kernel_rfl) ?_
      refine h_t 2 rfl rfl (by kernel_rfl) (fun _ _ _ h => h) ⟨hK, hE⟩ rfl (fun W hW => r_indexAddr_sl rfl Tryz.underlying25 Tryz.sizeOf43 rfl ha.is rfl (by omega) (by omega)) ?_
      refine h_listed (listed' := #[T',T',T',F',F',F',F',F',F',F',F',F',F',F',F',F',F',F',F',F',F',F',F',F',F',F',F',F',F',F',F',F',F',F',F',F',F',F']) (by kernel_rfl) ?_
      refine h_t 3 rfl rfl (by kernel_rfl) (fun _ _ _ h => h) ⟨hK, hE⟩ rfl (fun W hW => r_fieldAddr (n := 0) rfl Tryz.underlying43 rfl Tryz.sizeOf3 rfl) ?_
      refine h_listed (listed' := #[T',T',T',T',F',F',F',F',F',F',F',F',F',F',F',F',F',F',F',F',F',F',F',F',F',F',F',F',F',F',F',F',F',F',F',F',F',F']) (by kernel_rfl) ?_
      refine h_t 4 rfl rfl (by kernel_rfl) (fun _ _ _ h => h) ⟨hK, hE⟩ rfl (fun W hW => r_load rfl Tryz.isAgg3 rfl (Ext0.cells hW.2 _ _ (hfa 0 _ rfl))) ?_
      refine h_listed (listed' := #[T',T',T',T',T',F',F',F',F',F',F',F',F',F',F',F',F',F',F',F',F',F',F',F',F',F',F',F',F',F',F',F',F',F',F',F',F',F']) (by kernel_rfl) ?_
      refine h_t 5 rfl rfl (by kernel_rfl) (fun _ _ _ h => h) ⟨hK, hE⟩ rfl (fun W hW => r_move rfl) ?_
      refine h_listed (listed' := #[T',T',T',T',T',T',F',F',F',F',F',F',F',F',F',F',F',F',F',F',F',F',F',F',F',F',F',F',F',F',F',F',F',F',F',F',F',F']) (by kernel_rfl) ?_
      refine h_t 6 rfl rfl (by kernel_rfl) (fun _ _ _ h => h) ⟨hK, hE⟩ rfl (fun W hW => r_move rfl) ?_
      refine h_listed (listed' := #[T',T',T',T',T',T',T',F',F',F',F',F',F',F',F',F',F',F',F',F',F',F',F',F',F',F',F',F',F',F',F',F',F',F',F',F',F',F']) (by kernel_rfl) ?_
      refine h_t 7 rfl rfl (by kernel_rfl) (fun _ _ _ h => h) ⟨hK, hE⟩ rfl (fun W hW => r_indexAddr_sl rfl Tryz.underlying25 Tryz.sizeOf43 rfl hb'.is rfl (by omega) (by omega)) ?_
      refine h_listed (listed' := #[T',T',T',T',T',T',T',T',F',F',F',F',F',F',F',F',F',F',F',F',F',F',F',F',F',F',F',F',F',F',F',F',F',F',F',F',F',F']) (by kernel_rfl) ?_
      refine h_t 8 rfl rfl (by kernel_rfl) (fun _ _ _ h => h) ⟨hK, hE⟩ rfl (fun W hW => r_fieldAddr (n := 0) rfl Tryz.underlying43 rfl Tryz.sizeOf3 rfl) ?_
      refine h_listed (listed' := #[T',T',T',T',T',T',T',T',T',F',F',F',F',F',F',F',F',F',F',F',F',F',F',F',F',F',F',F',F',F',F',F',F',F',F',F',F',F']) (by kernel_rfl) ?_
      refine h_t 9 rfl rfl (by kernel_rfl) (fun _ _ _ h => h) ⟨hK, hE⟩ rfl (fun W hW => r_load rfl Tryz.isAgg3 rfl (Ext0.cells hW.2 _ _ (hfb 0 _ rfl))) ?_
      refine h_listed (listed' := #[T',T',T',T',T',T',T',T',T',T',F',F',F',F',F',F',F',F',F',F',F',F',F',F',F',F',F',F',F',F',F',F',F',F',F',F',F',F']) (by kernel_rfl) ?_
      refine h_t 10 rfl rfl (by kernel_rfl) (fun _ _ _ h => h) ⟨hK, hE⟩ rfl (fun W hW => r_neq rfl rfl rfl) ?_
      refine h_listed (listed' := #[T',T',T',T',T',T',T',T',T',T',T',F',F',F',F',F',F',F',F',F',F',F',F',F',F',F',F',F',F',F',F',F',F',F',F',F',F',F']) (by kernel_rfl) ?_
      refine h_t 11 rfl rfl (by kernel_rfl) (fun _ _ _ h => h) ⟨hK, hE⟩ rfl (fun W hW => r_move rfl) ?_
      refine h_listed (listed' := #[T',T',T',T',T',T',T',T',T',T',T',T',F',F',F',F',F',F',F',F',F',F',F',F',F',F',F',F',F',F',F',F',F',F',F',F',F',F']) (by kernel_rfl) ?_
      refine h_case 28 rfl (fun hb => ?_) (fun hb => ?_)
      · have hr28 := hb
        replace hb := of_decide_eq_false (by simpa using hb)
        have hne : a ≠ b := fat_ne (k := k) fun e => hb (by rw [e])
        refine h_listed (listed' := #[T',T',T',T',T',T',T',T',T',T',T',T',F',F',F',F',F',F',F',F',F',F',F',F',F',F',F',F',F',F',F',F',F',F',F',F',F',F']) (by kernel_rfl) ?_
        refine h_n 12 rfl rfl (by kernel_rfl) (fun _ _ _ h => h) ⟨hK, hE⟩ rfl ?_
        refine h_listed (listed' := #[T',T',T',T',T',T',T',T',T',T',T',T',T',F',F',F',F',F',F',F',F',F',F',F',F',F',F',F',F',F',F',F',F',F',F',F',F',F']) (by kernel_rfl) ?_
        refine h_n 13 rfl rfl (by kernel_rfl) (fun _ _ _ h => h) ⟨hK, hE⟩ rfl ?_
        refine h_listed (listed' := #[T',T',T',T',T',T',T',T',T',T',T',T',T',T',F',F',F',F',F',F',F',F',F',F',F',F',F',F',F',F',F',F',F',F',F',F',F',F']) (by kernel_rfl) ?_
        refine h_n 14 rfl rfl (by kernel_rfl) (fun _ _ _ h => h) ⟨hK, hE⟩ rfl ?_
        refine h_listed (listed' := #[T',T',T',T',T',T',T',T',T',T',T',T',T',T',T',F',F',F',F',F',F',F',F',F',F',F',F',F',F',F',F',F',F',F',F',F',F',F']) (by kernel_rfl) ?_
        refine h_n 15 rfl rfl (by kernel_rfl) (fun _ _ _ h => h) ⟨hK, hE⟩ rfl ?_
        refine h_listed (listed' := #[T',T',T',T',T',T',T',T',T',T',T',T',T',T',T',T',F',F',F',F',F',F',F',F',F',F',F',F',F',F',F',F',F',F',F',F',F',F']) (by kernel_rfl) ?_
        refine h_n 16 rfl rfl (by kernel_rfl) (fun _ _ _ h => h) ⟨hK, hE⟩ rfl ?_
        refine h_listed (listed' := #[T',T',T',T',T',T',T',T',T',T',T',T',T',T',T',T',T',F',F',F',F',F',F',F',F',F',F',F',F',F',F',F',F',F',F',F',F',F']) (by kernel_rfl) ?_
        refine h_n 17 rfl rfl (by kernel_rfl) (fun _ _ _ h => h) ⟨hK, hE⟩ rfl ?_
        refine h_listed (listed' := #[T',T',T',T',T',T',T',T',T',T',T',T',T',T',T',T',T',T',F',F',F',F',F',F',F',F',F',F',F',F',F',F',F',F',F',F',F',F']) (by kernel_rfl) ?_
        refine h_n 18 rfl rfl (by kernel_rfl) (fun _ _ _ h => h) ⟨hK, hE⟩ rfl ?_
        refine h_listed (listed' := #[T',T',T',T',T',T',T',T',T',T',T',T',T',T',T',T',T',T',T',F',F',F',F',F',F',F',F',F',F',F',F',F',F',F',F',F',F',F']) (by kernel_rfl) ?_
        refine h_n 19 rfl rfl (by kernel_rfl) (fun _ _ _ h => h) ⟨hK, hE⟩ rfl ?_
        refine h_listed (listed' := #[T',T',T',T',T',T',T',T',T',T',T',T',T',T',T',T',T',T',T',T',F',F',F',F',F',F',F',F',F',F',F',F',F',F',F',F',F',F']) (by kernel_rfl) ?_
        refine h_n 20 rfl rfl (by kernel_rfl) (fun _ _ _ h => h) ⟨hK, hE⟩ rfl ?_
        refine h_listed (listed' := #[T',T',T',T',T',T',T',T',T',T',T',T',T',T',T',T',T',T',T',T',T',F',F',F',F',F',F',F',F',F',F',F',F',F',F',F',F',F']) (by kernel_rfl) ?_
        refine h_n 21 rfl rfl (by kernel_rfl) (fun _ _ _ h => h) ⟨hK, hE⟩ rfl ?_
        refine h_listed (listed' := #[T',T',T',T',T',T',T',T',T',T',T',T',T',T',T',T',T',T',T',T',T',T',F',F',F',F',F',F',F',F',F',F',F',F',F',F',F',F']) (by kernel_rfl) ?_
        refine h_n 22 rfl rfl (by kernel_rfl) (fun _ _ _ h => h) ⟨hK, hE⟩ rfl ?_
        refine h_listed (listed' := #[T',T',T',T',T',T',T',T',T',T',T',T',T',T',T',T',T',T',T',T',T',T',T',F',F',F',F',F',F',F',F',F',F',F',F',F',F',F']) (by kernel_rfl) ?_
        refine h_t 23 rfl rfl (by kernel_rfl) (fun _ _ _ h => h) ⟨hK, hE⟩ rfl (fun W hW => r_pick rfl rfl) ?_
        refine h_listed (listed' := #[T',T',T',T',T',T',T',T',T',T',T',T',T',T',T',T',T',T',T',T',T',T',T',T',F',F',F',F',F',F',F',F',F',F',F',F',F',F']) (by kernel_rfl) ?_
        refine h_t 24 rfl rfl (by kernel_rfl) (fun _ _ _ h => h) ⟨hK, hE⟩ rfl (fun W hW => r_move rfl) ?_
        refine h_listed (listed' := #[T',T',T',T',T',T',T',T',T',T',T',T',T',T',T',T',T',T',T',T',T',T',T',T',T',F',F',F',F',F',F',F',F',F',F',F',F',F']) (by kernel_rfl) ?_
        refine h_n 25 rfl rfl (by kernel_rfl) (fun _ _ _ h => h) ⟨hK, hE⟩ rfl ?_
        refine h_listed (listed' := #[T',T',T',T',T',T',T',T',T',T',T',T',T',T',T',T',T',T',T',T',T',T',T',T',T',T',F',F',F',F',F',F',F',F',F',F',F',F']) (by kernel_rfl) ?_
        refine h_n 26 rfl rfl (by kernel_rfl) (fun _ _ _ h => h) ⟨hK, hE⟩ rfl ?_
        refine h_listed (listed' := #[T',T',T',T',T',T',T',T',T',T',T',T',T',T',T',T',T',T',T',T',T',T',T',T',T',T',T',F',F',F',F',F',F',F',F',F',F',F']) (by kernel_rfl) ?_
        refine h_n 27 rfl rfl (by kernel_rfl) (fun _ _ _ h => h) ⟨hK, hE⟩ rfl ?_
        refine h_listed (listed' := #[T',T',T',T',T',T',T',T',T',T',T',T',T',T',T',T',T',T',T',T',T',T',T',T',T',T',T',T',F',F',F',F',F',F',F',F',F',F']) (by kernel_rfl) ?_
        refine h_n 28 rfl rfl (by kernel_rfl) (fun _ _ _ h => h) ⟨hK, hE⟩ rfl ?_
        refine h_listed (listed' := #[T',T',T',T',T',T',T',T',T',T',T',T',T',T',T',T',T',T',T',T',T',T',T',T',T',T',T',T',T',F',F',F',F',F',F',F',F',F']) (by kernel_rfl) ?_
        refine h_n 29 rfl rfl (by kernel_rfl) (fun _ _ _ h => h) ⟨hK, hE⟩ rfl ?_
        refine h_listed (listed' := #[T',T',T',T',T',T',T',T',T',T',T',T',T',T',T',T',T',T',T',T',T',T',T',T',T',T',T',T',T',T',F',F',F',F',F',F',F',F']) (by kernel_rfl) ?_
        refine h_n 30 rfl rfl (by kernel_rfl) (fun _ _ _ h => h) ⟨hK, hE⟩ rfl ?_
        refine h_listed (listed' := #[T',T',T',T',T',T',T',T',T',T',T',T',T',T',T',T',T',T',T',T',T',T',T',T',T',T',T',T',T',T',T',F',F',F',F',F',F',F']) (by kernel_rfl) ?_
        refine h_n 31 rfl rfl (by kernel_rfl) (fun _ _ _ h => h) ⟨hK, hE⟩ rfl ?_
        refine h_listed (listed' := #[T',T',T',T',T',T',T',T',T',T',T',T',T',T',T',T',T',T',T',T',T',T',T',T',T',T',T',T',T',T',T',T',F',F',F',F',F',F']) (by kernel_rfl) ?_
        refine h_n 32 rfl rfl (by kernel_rfl) (fun _ _ _ h => h) ⟨hK, hE⟩ rfl ?_
        refine h_listed (listed' := #[T',T',T',T',T',T',T',T',T',T',T',T',T',T',T',T',T',T',T',T',T',T',T',T',T',T',T',T',T',T',T',T',T',F',F',F',F',F']) (by kernel_rfl) ?_
        refine h_n 33 rfl rfl (by kernel_rfl) (fun _ _ _ h => h) ⟨hK, hE⟩ rfl ?_
        refine h_listed (listed' := #[T',T',T',T',T',T',T',T',T',T',T',T',T',T',T',T',T',T',T',T',T',T',T',T',T',T',T',T',T',T',T',T',T',T',F',F',F',F']) (by kernel_rfl) ?_
        refine h_n 34 rfl rfl (by kernel_rfl) (fun _ _ _ h => h) ⟨hK, hE⟩ rfl ?_
        refine h_listed (listed' := #[T',T',T',T',T',T',T',T',T',T',T',T',T',T',T',T',T',T',T',T',T',T',T',T',T',T',T',T',T',T',T',T',T',T',T',F',F',F']) (by kernel_rfl) ?_
        refine h_n 35 rfl rfl (by kernel_rfl) (fun _ _ _ h => h) ⟨hK, hE⟩ rfl ?_
        refine h_listed (listed' := #[T',T',T',T',T',T',T',T',T',T',T',T',T',T',T',T',T',T',T',T',T',T',T',T',T',T',T',T',T',T',T',T',T',T',T',T',F',F']) (by kernel_rfl) ?_
        refine h_n 36 rfl rfl (by kernel_rfl) (fun _ _ _ h => h) ⟨hK, hE⟩ rfl ?_
        refine h_listed (listed' := #[T',T',T',T',T',T',T',T',T',T',T',T',T',T',T',T',T',T',T',T',T',T',T',T',T',T',T',T',T',T',T',T',T',T',T',T',T',F']) (by kernel_rfl) ?_
        refine h_t 37 rfl rfl (by kernel_rfl) (fun _ _ _ h => h) ⟨hK, hE⟩ rfl (fun W hW => r_pick rfl rfl) ?_
        refine h_listed (listed' := #[T',T',T',T',T',T',T',T',T',T',T',T',T',T',T',T',T',T',T',T',T',T',T',T',T',T',T',T',T',T',T',T',T',T',T',T',T',T']) (by kernel_rfl) ?_
        refine h_done (by kernel_rfl) ?_
        refine c_yes rfl ?_
        refine c_seq ?_
     
        refine c_ops ?_
        refine l_val rfl rfl rfl (r_assign rfl) ?_
        refine l_nil ?_
        refine c_ret ?_
        exact ⟨ret_bool rfl (decide_eq_false hne).symm, hE⟩
      · have hr28 := hb
        replace hb := of_decide_eq_true (by simpa using hb)
        have hea := hb
        refine h_listed (listed' := #[T',T',T',T',T',T',T',T',T',T',T',T',F',F',F',F',F',F',F',F',F',F',F',F',F',F',F',F',F',F',F',F',F',F',F',F',F',F']) (by kernel_rfl) ?_
        refine h_t 12 rfl rfl (by kernel_rfl) (fun _ _ _ h => h) ⟨hK, hE⟩ rfl (fun W hW => r_move rfl) ?_
        refine h_listed (listed' := #[T',T',T',T',T',T',T',T',T',T',T',T',T',F',F',F',F',F',F',F',F',F',F',F',F',F',F',F',F',F',F',F',F',F',F',F',F',F']) (by kernel_rfl) ?_
        refine h_t 13 rfl rfl (by kernel_rfl) (fun _ _ _ h => h) ⟨hK, hE⟩ rfl (fun W hW => r_move rfl) ?_
        refine h_listed (listed' := #[T',T',T',T',T',T',T',T',T',T',T',T',T',T',F',F',F',F',F',F',F',F',F',F',F',F',F',F',F',F',F',F',F',F',F',F',F',F']) (by kernel_rfl) ?_
        refine h_t 14 rfl rfl (by kernel_rfl) (fun _ _ _ h => h) ⟨hK, hE⟩ rfl (fun W hW => r_indexAddr_sl rfl Tryz.underlying25 Tryz.sizeOf43 rfl ha.is rfl (by omega) (by omega)) ?_
        refine h_listed (listed' := #[T',T',T',T',T',T',T',T',T',T',T',T',T',T',T',F',F',F',F',F',F',F',F',F',F',F',F',F',F',F',F',F',F',F',F',F',F',F']) (by kernel_rfl) ?_
        refine h_t 15 rfl rfl (by kernel_rfl) (fun _ _ _ h => h) ⟨hK, hE⟩ rfl (fun W hW => r_fieldAddr (n := 0) rfl Tryz.underlying43 rfl Tryz.sizeOf3 rfl) ?_
        refine h_listed (listed' := #[T',T',T',T',T',T',T',T',T',T',T',T',T',T',T',T',F',F',F',F',F',F',F',F',F',F',F',F',F',F',F',F',F',F',F',F',F',F']) (by kernel_rfl) ?_
        refine h_t 16 rfl rfl (by kernel_rfl) (fun _ _ _ h => h) ⟨hK, hE⟩ rfl (fun W hW => r_load rfl Tryz.isAgg3 rfl (Ext0.cells hW.2 _ _ (hfa 1 _ rfl))) ?_
        refine h_listed (listed' := #[T',T',T',T',T',T',T',T',T',T',T',T',T',T',T',T',T',F',F',F',F',F',F',F',F',F',F',F',F',F',F',F',F',F',F',F',F',F']) (by kernel_rfl) ?_
        refine h_t 17 rfl rfl (by kernel_rfl) (fun _ _ _ h => h) ⟨hK, hE⟩ rfl (fun W hW => r_move rfl) ?_
        refine h_listed (listed' := #[T',T',T',T',T',T',T',T',T',T',T',T',T',T',T',T',T',T',F',F',F',F',F',F',F',F',F',F',F',F',F',F',F',F',F',F',F',F']) (by kernel_rfl) ?_
        refine h_t 18 rfl rfl (by kernel_rfl) (fun _ _ _ h => h) ⟨hK, hE⟩ rfl (fun W hW => r_move rfl) ?_
        refine h_listed (listed' := #[T',T',T',T',T',T',T',T',T',T',T',T',T',T',T',T',T',T',T',F',F',F',F',F',F',F',F',F',F',F',F',F',F',F',F',F',F',F']) (by kernel_rfl) ?_
        refine h_t 19 rfl rfl (by kernel_rfl) (fun _ _ _ h => h) ⟨hK, hE⟩ rfl (fun W hW => r_indexAddr_sl rfl Tryz.underlying25 Tryz.sizeOf43 rfl hb'.is rfl (by omega) (by omega)) ?_
        refine h_listed (listed' := #[T',T',T',T',T',T',T',T',T',T',T',T',T',T',T',T',T',T',T',T',F',F',F',F',F',F',F',F',F',F',F',F',F',F',F',F',F',F']) (by kernel_rfl) ?_
        refine h_t 20 rfl rfl (by kernel_rfl) (fun _ _ _ h => h) ⟨hK, hE⟩ rfl (fun W hW => r_fieldAddr (n := 0) rfl Tryz.underlying43 rfl Tryz.sizeOf3 rfl) ?_
        refine h_listed (listed' := #[T',T',T',T',T',T',T',T',T',T',T',T',T',T',T',T',T',T',T',T',T',F',F',F',F',F',F',F',F',F',F',F',F',F',F',F',F',F']) (by kernel_rfl) ?_
        refine h_t 21 rfl rfl (by kernel_rfl) (fun _ _ _ h => h) ⟨hK, hE⟩ rfl (fun W hW => r_load rfl Tryz.isAgg3 rfl (Ext0.cells hW.2 _ _ (hfb 1 _ rfl))) ?_
        refine h_listed (listed' := #[T',T',T',T',T',T',T',T',T',T',T',T',T',T',T',T',T',T',T',T',T',T',F',F',F',F',F',F',F',F',F',F',F',F',F',F',F',F']) (by kernel_rfl) ?_
        refine h_t 22 rfl rfl (by kernel_rfl) (fun _ _ _ h => h) ⟨hK, hE⟩ rfl (fun W hW => r_neq rfl rfl rfl) ?_
        refine h_listed (listed' := #[T',T',T',T',T',T',T',T',T',T',T',T',T',T',T',T',T',T',T',T',T',T',T',F',F',F',F',F',F',F',F',F',F',F',F',F',F',F']) (by kernel_rfl) ?_
        refine h_t 23 rfl rfl (by kernel_rfl) (fun _ _ _ h => h) ⟨hK, hE⟩ rfl (fun W hW => r_pick rfl rfl) ?_
        refine h_listed (listed' := #[T',T',T',T',T',T',T',T',T',T',T',T',T',T',T',T',T',T',T',T',T',T',T',T',F',F',F',F',F',F',F',F',F',F',F',F',F',F']) (by kernel_rfl) ?_
        refine h_t 24 rfl rfl (by kernel_rfl) (fun _ _ _ h => h) ⟨hK, hE⟩ rfl (fun W hW => r_move rfl) ?_
        refine h_listed (listed' := #[T',T',T',T',T',T',T',T',T',T',T',T',T',T',T',T',T',T',T',T',T',T',T',T',T',F',F',F',F',F',F',F',F',F',F',F',F',F']) (by kernel_rfl) ?_
        refine h_case 41 rfl (fun hb => ?_) (fun hb => ?_)
        · have hr41 := hb
          replace hb := of_decide_eq_false (by simpa using hb)
          have hne : a ≠ b := fat_ne (k := k) fun e => hb (by rw [e])
          refine h_listed (listed' := #[T',T',T',T',T',T',T',T',T',T',T',T',T',T',T',T',T',T',T',T',T',T',T',T',T',F',F',F',F',F',F',F',F',F',F',F',F',F']) (by kernel_rfl) ?_
          refine h_n 25 rfl rfl (by kernel_rfl) (fun _ _ _ h => h) ⟨hK, hE⟩ rfl ?_
          refine h_listed (listed' := #[T',T',T',T',T',T',T',T',T',T',T',T',T',T',T',T',T',T',T',T',T',T',T',T',T',T',F',F',F',F',F',F',F',F',F',F',F',F']) (by kernel_rfl) ?_
          refine h_n 26 rfl rfl (by kernel_rfl) (fun _ _ _ h => h) ⟨hK, hE⟩ rfl ?_
          refine h_listed (listed' := #[T',T',T',T',T',T',T',T',T',T',T',T',T',T',T',T',T',T',T',T',T',T',T',T',T',T',T',F',F',F',F',F',F',F',F',F',F',F']) (by kernel_rfl) ?_
          refine h_n 27 rfl rfl (by kernel_rfl) (fun _ _ _ h => h) ⟨hK, hE⟩ rfl ?_
          refine h_listed (listed' := #[T',T',T',T',T',T',T',T',T',T',T',T',T',T',T',T',T',T',T',T',T',T',T',T',T',T',T',T',F',F',F',F',F',F',F',F',F',F']) (by kernel_rfl) ?_
          refine h_n 28 rfl rfl (by kernel_rfl) (fun _ _ _ h => h) ⟨hK, hE⟩ rfl ?_
          refine h_listed (listed' := #[T',T',T',T',T',T',T',T',T',T',T',T',T',T',T',T',T',T',T',T',T',T',T',T',T',T',T',T',T',F',F',F',F',F',F',F',F',F']) (by kernel_rfl) ?_
          refine h_n 29 rfl rfl (by kernel_rfl) (fun _ _ _ h => h) ⟨hK, hE⟩ rfl ?_
          refine h_listed (listed' := #[T',T',T',T',T',T',T',T',T',T',T',T',T',T',T',T',T',T',T',T',T',T',T',T',T',T',T',T',T',T',F',F',F',F',F',F',F',F']) (by kernel_rfl) ?_
          refine h_n 30 rfl rfl (by kernel_rfl) (fun _ _ _ h => h) ⟨hK, hE⟩ rfl ?_
          refine h_listed (listed' := #[T',T',T',T',T',T',T',T',T',T',T',T',T',T',T',T',T',T',T',T',T',T',T',T',T',T',T',T',T',T',T',F',F',F',F',F',F',F']) (by kernel_rfl) ?_
          refine h_n 31 rfl rfl (by kernel_rfl) (fun _ _ _ h => h) ⟨hK, hE⟩ rfl ?_
          refine h_listed (listed' := #[T',T',T',T',T',T',T',T',T',T',T',T',T',T',T',T',T',T',T',T',T',T',T',T',T',T',T',T',T',T',T',T',F',F',F',F',F',F']) (by kernel_rfl) ?_
          refine h_n 32 rfl rfl (by kernel_rfl) (fun _ _ _ h => h) ⟨hK, hE⟩ rfl ?_
          refine h_listed (listed' := #[T',T',T',T',T',T',T',T',T',T',T',T',T',T',T',T',T',T',T',T',T',T',T',T',T',T',T',T',T',T',T',T',T',F',F',F',F',F']) (by kernel_rfl) ?_
          refine h_n 33 rfl rfl (by kernel_rfl) (fun _ _ _ h => h) ⟨hK, hE⟩ rfl ?_
          refine h_listed (listed' := #[T',T',T',T',T',T',T',T',T',T',T',T',T',T',T',T',T',T',T',T',T',T',T',T',T',T',T',T',T',T',T',T',T',T',F',F',F',F']) (by kernel_rfl) ?_
          refine h_n 34 rfl rfl (by kernel_rfl) (fun _ _ _ h => h) ⟨hK, hE⟩ rfl ?_
          refine h_listed (listed' := #[T',T',T',T',T',T',T',T',T',T',T',T',T',T',T',T',T',T',T',T',T',T',T',T',T',T',T',T',T',T',T',T',T',T',T',F',F',F']) (by kernel_rfl) ?_
          refine h_n 35 rfl rfl (by kernel_rfl) (fun _ _ _ h => h) ⟨hK, hE⟩ rfl ?_
          refine h_listed (listed' := #[T',T',T',T',T',T',T',T',T',T',T',T',T',T',T',T',T',T',T',T',T',T',T',T',T',T',T',T',T',T',T',T',T',T',T',T',F',F']) (by kernel_rfl) ?_
          refine h_n 36 rfl rfl (by kernel_rfl) (fun _ _ _ h => h) ⟨hK, hE⟩ rfl ?_
          refine h_listed (listed' := #[T',T',T',T',T',T',T',T',T',T',T',T',T',T',T',T',T',T',T',T',T',T',T',T',T',T',T',T',T',T',T',T',T',T',T',T',T',F']) (by kernel_rfl) ?_
          refine h_t 37 rfl rfl (by kernel_rfl) (fun _ _ _ h => h) ⟨hK, hE⟩ rfl (fun W hW => r_pick rfl rfl) ?_
          refine h_listed (listed' := #[T',T',T',T',T',T',T',T',T',T',T',T',T',T',T',T',T',T',T',T',T',T',T',T',T',T',T',T',T',T',T',T',T',T',T',T',T',T']) (by kernel_rfl) ?_
          refine h_done (by kernel_rfl) ?_
          refine c_yes rfl ?_
          refine c_seq ?_
       
          refine c_ops ?_
          refine l_val rfl rfl rfl (r_assign rfl) ?_
          refine l_nil ?_
          refine c_ret ?_
          exact ⟨ret_bool rfl (decide_eq_false hne).symm, hE⟩
        · have hr41 := hb
          replace hb := of_decide_eq_true (by simpa using hb)
          have heb := hb
          refine h_listed (listed' := #[T',T',T',T',T',T',T',T',T',T',T',T',T',T',T',T',T',T',T',T',T',T',T',T',T',F',F',F',F',F',F',F',F',F',F',F',F',F']) (by kernel_rfl) ?_
          refine h_t 25 rfl rfl (by kernel_rfl) (fun _ _ _ h => h) ⟨hK, hE⟩ rfl (fun W hW => r_move rfl) ?_
          refine h_listed (listed' := #[T',T',T',T',T',T',T',T',T',T',T',T',T',T',T',T',T',T',T',T',T',T',T',T',T',T',F',F',F',F',F',F',F',F',F',F',F',F']) (by kernel_rfl) ?_
          refine h_t 26 rfl rfl (by kernel_rfl) (fun _ _ _ h => h) ⟨hK, hE⟩ rfl (fun W hW => r_move rfl) ?_
          refine h_listed (listed' := #[T',T',T',T',T',T',T',T',T',T',T',T',T',T',T',T',T',T',T',T',T',T',T',T',T',T',T',F',F',F',F',F',F',F',F',F',F',F']) (by kernel_rfl) ?_
          refine h_t 27 rfl rfl (by kernel_rfl) (fun _ _ _ h => h) ⟨hK, hE⟩ rfl (fun W hW => r_indexAddr_sl rfl Tryz.underlying25 Tryz.sizeOf43 rfl ha.is rfl (by omega) (by omega)) ?_
          refine h_listed (listed' := #[T',T',T',T',T',T',T',T',T',T',T',T',T',T',T',T',T',T',T',T',T',T',T',T',T',T',T',T',F',F',F',F',F',F',F',F',F',F']) (by kernel_rfl) ?_
          refine h_t 28 rfl rfl (by kernel_rfl) (fun _ _ _ h => h) ⟨hK, hE⟩ rfl (fun W hW => r_fieldAddr (n := 0) rfl Tryz.underlying43 rfl Tryz.sizeOf26 rfl) ?_
          refine h_listed (listed' := #[T',T',T',T',T',T',T',T',T',T',T',T',T',T',T',T',T',T',T',T',T',T',T',T',T',T',T',T',T',F',F',F',F',F',F',F',F',F']) (by kernel_rfl) ?_
          refine h_t 29 rfl rfl (by kernel_rfl) (fun _ _ _ h => h) ⟨hK, hE⟩ rfl (fun W hW => r_load rfl Tryz.isAgg26 rfl (Ext0.cells hW.2 _ _ (hfa 2 _ rfl))) ?_
          refine h_listed (listed' := #[T',T',T',T',T',T',T',T',T',T',T',T',T',T',T',T',T',T',T',T',T',T',T',T',T',T',T',T',T',T',F',F',F',F',F',F',F',F']) (by kernel_rfl) ?_
          refine h_t 30 rfl rfl (by kernel_rfl) (fun _ _ _ h => h) ⟨hK, hE⟩ rfl (fun W hW => r_move rfl) ?_
          refine h_listed (listed' := #[T',T',T',T',T',T',T',T',T',T',T',T',T',T',T',T',T',T',T',T',T',T',T',T',T',T',T',T',T',T',T',F',F',F',F',F',F',F']) (by kernel_rfl) ?_
          refine h_t 31 rfl rfl (by kernel_rfl) (fun _ _ _ h => h) ⟨hK, hE⟩ rfl (fun W hW => r_move rfl) ?_
          refine h_listed (listed' := #[T',T',T',T',T',T',T',T',T',T',T',T',T',T',T',T',T',T',T',T',T',T',T',T',T',T',T',T',T',T',T',T',F',F',F',F',F',F']) (by kernel_rfl) ?_
          refine h_t 32 rfl rfl (by kernel_rfl) (fun _ _ _ h => h) ⟨hK, hE⟩ rfl (fun W hW => r_indexAddr_sl rfl Tryz.underlying25 Tryz.sizeOf43 rfl hb'.is rfl (by omega) (by omega)) ?_
          refine h_listed (listed' := #[T',T',T',T',T',T',T',T',T',T',T',T',T',T',T',T',T',T',T',T',T',T',T',T',T',T',T',T',T',T',T',T',T',F',F',F',F',F']) (by kernel_rfl) ?_
          refine h_t 33 rfl rfl (by kernel_rfl) (fun _ _ _ h => h) ⟨hK, hE⟩ rfl (fun W hW => r_fieldAddr (n := 0) rfl Tryz.underlying43 rfl Tryz.sizeOf26 rfl) ?_
          refine h_listed (listed' := #[T',T',T',T',T',T',T',T',T',T',T',T',T',T',T',T',T',T',T',T',T',T',T',T',T',T',T',T',T',T',T',T',T',T',F',F',F',F']) (by kernel_rfl) ?_
          refine h_t 34 rfl rfl (by kernel_rfl) (fun _ _ _ h => h) ⟨hK, hE⟩ rfl (fun W hW => r_load rfl Tryz.isAgg26 rfl (Ext0.cells hW.2 _ _ (hfb 2 _ rfl))) ?_
          refine h_listed (listed' := #[T',T',T',T',T',T',T',T',T',T',T',T',T',T',T',T',T',T',T',T',T',T',T',T',T',T',T',T',T',T',T',T',T',T',T',F',F',F']) (by kernel_rfl) ?_
          refine h_by 35 rfl rfl (by kernel_rfl) rfl (r_call rfl rfl Tryz.func10 rfl rfl) (EqInts_calls _ A1 c1 (fat a k).why (hwa.keep RInt.kept (Ext0.cells hE)) B1 d1 (fat b k).why (hwb.keep RInt.kept (Ext0.cells hE))) ?_
          rintro _ w ⟨rfl, hX⟩
          replace hL := hL.ext0 hX
          replace hE := hE.step0 hX
          have hK := hL
          refine ⟨_, rfl, ⟨hK, hE⟩, ?_⟩
          refine h_listed (listed' := #[T',T',T',T',T',T',T',T',T',T',T',T',T',T',T',T',T',T',T',T',T',T',T',T',T',T',T',T',T',T',T',T',T',T',T',T',F',F']) (by kernel_rfl) ?_
          refine h_t 36 rfl rfl (by kernel_rfl) (fun _ _ _ h => h) ⟨hK, hE⟩ rfl (fun W hW => r_not rfl rfl) ?_
          refine h_listed (listed' := #[T',T',T',T',T',T',T',T',T',T',T',T',T',T',T',T',T',T',T',T',T',T',T',T',T',T',T',T',T',T',T',T',T',T',T',T',T',F']) (by kernel_rfl) ?_
          refine h_t 37 rfl rfl (by kernel_rfl) (fun _ _ _ h => h) ⟨hK, hE⟩ rfl (fun W hW => r_pick rfl rfl) ?_
          refine h_listed (listed' := #[T',T',T',T',T',T',T',T',T',T',T',T',T',T',T',T',T',T',T',T',T',T',T',T',T',T',T',T',T',T',T',T',T',T',T',T',T',T']) (by kernel_rfl) ?_
          refine h_done (by kernel_rfl) ?_
          refine c_cond rfl (fun hb => ?_) (fun hb => ?_)
          · have hr54 := hb
            have hne : a ≠ b := fat_ne (k := k) fun e => by rw [e] at hb; simp at hb
            refine c_seq ?_
         
            refine c_ops ?_
            refine l_val rfl rfl rfl (r_assign rfl) ?_
            refine l_nil ?_
            refine c_ret ?_
            exact ⟨ret_bool rfl (decide_eq_false hne).symm, hE⟩
          · have hr54 := hb
            have hwe : (fat a k).why = (fat b k).why := by simpa using hb
            have heqk : fat a k = fat b k := by
              cases hx : fat a k
              cases hy : fat b k
              rw [hx, hy] at hea heb hwe
              simp only at hea heb hwe
              rw [hea, heb, hwe]
            refine c_skip ?_
         
            refine c_ops ?_
            refine l_val rfl rfl rfl (r_move rfl) ?_
            refine l_val rfl rfl rfl (r_add rfl rfl rfl) ?_
            refine l_val rfl rfl rfl (r_assign rfl) ?_
            refine l_nil ?_
            refine ⟨by repeat (first | exact Agree.over _ _ _ | exact Agree.refl _ _ | (refine Agree.puto ?_ _ _ rfl) | (refine Agree.put ?_ _ _ rfl) | (refine Agree.sub ?_ rfl)), ?_⟩
            exact ⟨a.length - (k + 1), by omega, k + 1, by omega, rfl, by show Value.int .i64 (IntKind.i64.wrap ((k : Int) + 1)) = _; rw [wrap_succ hklt ha.max], fun j hj => by rcases Nat.lt_or_eq_of_le (Nat.le_of_lt_succ hj) with h | rfl <;> first | exact hall j h | exact heqk, hE⟩
    · have hr14 := hb
      replace hb := of_decide_eq_false hb
      refine c_exit ?_
      refine c_seq ?_
   
      refine c_ops ?_
      refine l_val rfl rfl rfl (r_assign rfl) ?_
      refine l_nil ?_
      refine c_ret ?_
      exact ⟨ret_bool rfl (decide_eq_true (eq_of_fat hll (fun k hk => hall k (by omega)))).symm, hE⟩
end Go.Proofs.YtndophlnapjkhaaGreatDoor.Vc
namespace Go.Proofs.YtndophlnapjkhaaGreatDoor.Vc
open Go Go.RowKit
set_option linter.unusedVariables false
set_option linter.unusedSimpArgs false
structure Walk (g : List GNode) (l : List Fact) (k : Int) (S q : List Int) : Prop where
  inn : ∀ i ∈ S ++ q, 0 ≤ i ∧ i < l.length ∧ Reach g l k i
  start : k ∈ S ++ q
  done : ∀ i ∈ S, hereF g l i = false ∧ ∀ j ∈ onF g (fat l i), j ∈ S ++ q
section
variable {g : List GNode} {l : List Fact} {k : Int} {S q : List Int}
theorem Walk.begin (h0 : 0 ≤ k) (h1 : k < l.length) : Walk g l k [] [k] := ⟨fun i hi => by simp at hi; subst hi; exact ⟨h0, h1, .refl⟩, by simp, fun i hi => by simp at hi⟩
theorem Walk.seen {i : Int} (h : Walk g l k S (i :: q)) (hi : i ∈ S) : Walk g l k S q := by
  have sub : ∀ x, x ∈ S ++ (i :: q) → x ∈ S ++ q := fun x hx => by
    rcases List.mem_append.1 hx with hx | hx
    · exact List.mem_append_left _ hx
    · rcases List.mem_cons.1 hx with rfl | hx
      · exact List.mem_append_left _ hi
      · exact List.mem_append_right _ hx
  exact ⟨fun x hx => h.inn x (by rcases List.mem_append.1 hx with hx | hx <;> simp [hx]), sub _ h.start, fun x hx => ⟨(h.done x hx).1, fun j hj => sub j ((h.done x hx).2 j hj)⟩⟩
theorem Walk.go {i : Int} (h : Walk g l k S (i :: q)) (hh : hereF g l i = false) (hin : ∀ j ∈ onF g (fat l i), 0 ≤ j ∧ j < l.length) : Walk g l k (S ++ [i]) (q ++ onF g (fat l i)) := by
  have hi := h.inn i (by simp)
  have sub : ∀ x, x ∈ S ++ (i :: q) → x ∈ (S ++ [i]) ++ (q ++ onF g (fat l i)) := fun x hx => by
    rcases List.mem_append.1 hx with hx | hx
    · simp [hx]
    · rcases List.mem_cons.1 hx with rfl | hx <;> simp_all
  refine ⟨fun x hx => ?_, sub _ h.start, fun x hx => ?_⟩
  · simp only [List.mem_append, List.mem_singleton] at hx
    rcases hx with (hx | rfl) | hx | hx
    · exact h.inn x (by simp [hx])
    · exact hi
    · exact h.inn x (by simp [hx])
    · exact ⟨(hin x hx).1, (hin x hx).2, .step hi.2.2 hx⟩
  · rcases List.mem_append.1 hx with hx | hx
    · exact ⟨(h.done x hx).1, fun j hj => sub j ((h.done x hx).2 j hj)⟩
    · rw [List.mem_singleton] at hx
      subst hx
      exact ⟨hh, fun j hj => by simp [hj]⟩
theorem Walk.all (h : Walk g l k S []) {j : Int} (hj : Reach g l k j) : j ∈ S ∧ hereF g l j = false := by
  have : j ∈ S := by
    induction hj with
    | refl => simpa using h.start
    | step _ hj ih => simpa using (h.done _ ih).2 _ hj
  exact ⟨this, (h.done j this).1⟩
end
end Go.Proofs.YtndophlnapjkhaaGreatDoor.Vc
namespace Go.Proofs.YtndophlnapjkhaaGreatDoor.Vc
open Go Go.RowKit
set_option linter.unusedVariables false
set_option linter.unusedSimpArgs false
def RFV (_ : World) (x : FV) (cs : List Value) : Prop := cs = fcell x
theorem RFV.kept : Kept RFV := fun _ _ _ _ _ h => h
theorem fv_sl {w : World} {B e n' c : Nat} {A : Option Addr} {fv : List FV} (h : w.ownsRow B e 3 (.slice A n' c) fv.length (fv.map fcell).flatten) : Sl w 3 RFV A fv.length c fv ∧ n' = fv.length := by
  have hE : Els w 3 RFV fv (fv.map fcell) := by
    refine ⟨by simp, fun i x cs h1 h2 => ?_⟩
    rw [List.getElem?_map, h1] at h2
    cases h2
    exact ⟨rfl, rfl⟩
  obtain ⟨A', c', hv, hs, _⟩ := Sl.ofRow h hE rfl
  injection hv with h1 h2 h3
  subst h1; subst h2; subst h3
  exact ⟨hs, rfl⟩
theorem fv_nat {fv : List FV} {k : Nat} (h : k < fv.length) : fv[k]? = some (fv.getD k (Fact.nil, .slice none 0 0)) := by
  rw [List.getD_eq_getElem?_getD, List.getElem?_eq_getElem h]
  rfl
theorem atP_step {p : Int × Int} {l : List Fact} {k : Nat} {f : Fact} (h : l[k]? = some f) : atP p k (l.drop k) = if (f.a, f.b) = p then some k else atP p (k + 1) (l.drop (k + 1)) := by
  have hk : k < l.length := (List.getElem?_eq_some_iff.1 h).1
  rw [List.drop_eq_getElem_cons hk, (List.getElem?_eq_some_iff.1 h).2, atP]
theorem at_rcalls (w0 : World) (xb : Nat) (Al : Option Addr) (cl : Nat) (fv : List FV) (hx1 : w0.cell? ⟨xb, 1, none⟩ = some (.slice Al fv.length cl)) (hl : Sl w0 3 RFV Al fv.length cl fv) (p : Int × Int) :
    Calls Tryz.prog 56 [.pointer (some ⟨xb, 0, none⟩), .agg #[.int .i64 p.1, .int .i64 p.2]].toArray w0 fun en w' => en = .returned (.int .i64 (idxV (atP p 0 (fv.map (·.1))))) ∧ Ext0 w0 w' := by
  have hE : Ext0 w0 w0 := Ext.refl _ _
  have hL : Has w0 [] := trivial
  refine calls [4] Tryz.func56 rfl rfl rfl rfl ?_
  refine c_seq ?_
  refine c_ops ?_
  refine l_new rfl rfl rfl (n_box rfl hL hE) ?_
  rintro _ w ⟨b3, rfl, hb3, hL, hE, hX⟩
  refine l_val rfl rfl rfl (r_assign rfl) ?_
  refine l_nil ?_
  refine c_seq ?_
  refine c_seq ?_
  refine c_ops ?_
  refine l_val rfl rfl rfl (r_assign rfl) ?_
  refine l_nil ?_
  refine c_block ?_
  refine c_loop0 (fun m1 e w => (e 0 = .pointer (some ⟨xb, 0, none⟩) ∧ e 3 = .pointer (some ⟨b3, 0, none⟩)) ∧ ∃ (k : Nat), k ≤ fv.length ∧ m1 = fv.length - k ∧ e 5 = .int .i64 (k : Nat) ∧ atP p 0 (fv.map (·.1)) = atP p k ((fv.map (·.1)).drop k) ∧ Has w [.blk b3 (.cells #[.int .i64 p.1, .int .i64 p.2] 32 (0, 0))] ∧ Ext0 w0 w) (fv.length) ?_ ?_
  · exact ⟨⟨rfl, rfl⟩, 0, Nat.zero_le _, rfl, rfl, rfl, hL, hE⟩
  rintro m1 e w ⟨⟨hq0, hq3⟩, hI⟩
  refine c_know (t := 0) (by exact hq0) ?_
  refine c_know (t := 3) (by exact hq3) ?_
  clear hq0 hq3
  obtain ⟨k, hkl, hkm, h5s, hfind, hL, hE⟩ := hI
  refine c_know (t := 5) (by exact h5s) ?_
  refine c_seq ?_
  refine c_seq ?_
  refine c_ops ?_
  refine l_val rfl rfl rfl (r_move rfl) ?_
  refine l_val rfl rfl rfl (r_move rfl) ?_
  refine l_val rfl rfl rfl (r_nilCheck rfl rfl) ?_
  refine l_val rfl rfl rfl (r_fieldAddr (n := 0) rfl Tryz.underlying68 rfl Tryz.sizeOf25 rfl) ?_
  refine l_val rfl rfl rfl (r_load rfl Tryz.isAgg25 rfl (Ext0.cells hE _ _ hx1)) ?_
  refine l_val rfl rfl rfl (r_len rfl Tryz.underlying25 rfl) ?_
  refine l_val rfl rfl rfl (r_lss rfl rfl rfl) ?_
  refine l_nil ?_
  refine c_cond rfl (fun hb => ?_) (fun hb => ?_)
  · have hr12 := hb
    replace hb := of_decide_eq_true hb
    have hklt : k < fv.length := by omega
    obtain ⟨cs, _, hcs, hcell0⟩ := hl.at_ k _ (fv_nat hklt)
    have hcell : ∀ j v, (fcell (fv.getD k (Fact.nil, .slice none 0 0)))[j]? = some v → w0.cell? (((adr Al).add ((k : Int).toNat * 3)).add j) = some v := fun j v hj => by rw [adr_add, Int.toNat_natCast]; exact hcell0 j v (hcs ▸ hj)
    have hstep := atP_step (p := p) (l := fv.map (·.1)) (k := k) (f := (fv.getD k (Fact.nil, .slice none 0 0)).1) (by rw [List.getElem?_map, fv_nat hklt]; rfl)
    refine c_skip ?_
    refine c_seq ?_
    refine c_block ?_
    refine c_seq ?_
 
    refine c_draw mixed (hL) hE ?_
    replace hL := hL.drew
    replace hE := hE.drew
    have hK := hL
    refine h_t 0 rfl rfl (by kernel_rfl) (fun _ _ _ h => h) ⟨hK, hE⟩ rfl (fun W hW => r_move rfl) ?_
    refine h_listed (listed' := #[T',F',F',F',F',F',F',F',F',F',F',F',F',F',F',F',F',F',F',F',F',F',F',F']) (by kernel_rfl) ?_
    refine h_t 1 rfl rfl (by kernel_rfl) (fun _ _ _ h => h) ⟨hK, hE⟩ rfl (fun W hW => r_nilCheck rfl rfl) ?_
    refine h_listed (listed' := #[T',T',F',F',F',F',F',F',F',F',F',F',F',F',F',F',F',F',F',F',F',F',F',F']) (by kernel_rfl) ?_
    refine h_t 2 rfl rfl (by kernel_rfl) (fun _ _ _ h => h) ⟨hK, hE⟩ rfl (fun W hW => r_fieldAddr (n := 0) rfl Tryz.underlying68 rfl Tryz.sizeOf25 rfl) ?_
    refine h_listed (listed' := #[T',T',T',F',F',F',F',F',F',F',F',F',F',F',F',F',F',F',F',F',F',F',F',F']) (by kernel_rfl) ?_
    refine h_t 3 rfl rfl (by kernel_rfl) (fun _ _ _ h => h) ⟨hK, hE⟩ rfl (fun W hW => r_load rfl Tryz.isAgg25 rfl (Ext0.cells hW.2 _ _ hx1)) ?_
    refine h_listed (listed' := #[T',T',T',T',F',F',F',F',F',F',F',F',F',F',F',F',F',F',F',F',F',F',F',F']) (by kernel_rfl) ?_
    refine h_t 4 rfl rfl (by kernel_rfl) (fun _ _ _ h => h) ⟨hK, hE⟩ rfl (fun W hW => r_move rfl) ?_
    refine h_listed (listed' := #[T',T',T',T',T',F',F',F',F',F',F',F',F',F',F',F',F',F',F',F',F',F',F',F']) (by kernel_rfl) ?_
    refine h_t 5 rfl rfl (by kernel_rfl) (fun _ _ _ h => h) ⟨hK, hE⟩ rfl (fun W hW => r_indexAddr_sl rfl Tryz.underlying25 Tryz.sizeOf43 rfl hl.is rfl (by omega) (by omega)) ?_
    refine h_listed (listed' := #[T',T',T',T',T',T',F',F',F',F',F',F',F',F',F',F',F',F',F',F',F',F',F',F']) (by kernel_rfl) ?_
    refine h_t 6 rfl rfl (by kernel_rfl) (fun _ _ _ h => h) ⟨hK, hE⟩ rfl (fun W hW => r_fieldAddr (n := 0) rfl Tryz.underlying43 rfl Tryz.sizeOf3 rfl) ?_
    refine h_listed (listed' := #[T',T',T',T',T',T',T',F',F',F',F',F',F',F',F',F',F',F',F',F',F',F',F',F']) (by kernel_rfl) ?_
    refine h_t 7 rfl rfl (by kernel_rfl) (fun _ _ _ h => h) ⟨hK, hE⟩ rfl (fun W hW => r_load rfl Tryz.isAgg3 rfl (Ext0.cells hW.2 _ _ (hcell 0 _ rfl))) ?_
    refine h_listed (listed' := #[T',T',T',T',T',T',T',T',F',F',F',F',F',F',F',F',F',F',F',F',F',F',F',F']) (by kernel_rfl) ?_
    refine h_t 8 rfl rfl (by kernel_rfl) (fun _ _ _ h => h) ⟨hK, hE⟩ rfl (fun W hW => r_indexAddr_arr rfl Tryz.underlying32 Tryz.sizeOf3 rfl rfl (by decide) (by decide)) ?_
    refine h_listed (listed' := #[T',T',T',T',T',T',T',T',T',F',F',F',F',F',F',F',F',F',F',F',F',F',F',F']) (by kernel_rfl) ?_
    refine h_t 9 rfl rfl (by kernel_rfl) (fun _ _ _ h => h) ⟨hK, hE⟩ rfl (fun W hW => r_load (v := .int .i64 p.1) rfl Tryz.isAgg3 rfl (blk_raw (cs := #[.int .i64 p.1, .int .i64 p.2]) (hW.1.get 0 rfl) rfl 0 _ rfl)) ?_
    refine h_listed (listed' := #[T',T',T',T',T',T',T',T',T',T',F',F',F',F',F',F',F',F',F',F',F',F',F',F']) (by kernel_rfl) ?_
    refine h_t 10 rfl rfl (by kernel_rfl) (fun _ _ _ h => h) ⟨hK, hE⟩ rfl (fun W hW => r_eql rfl rfl rfl) ?_
    refine h_listed (listed' := #[T',T',T',T',T',T',T',T',T',T',T',F',F',F',F',F',F',F',F',F',F',F',F',F']) (by kernel_rfl) ?_
    refine h_t 11 rfl rfl (by kernel_rfl) (fun _ _ _ h => h) ⟨hK, hE⟩ rfl (fun W hW => r_move rfl) ?_
    refine h_listed (listed' := #[T',T',T',T',T',T',T',T',T',T',T',T',F',F',F',F',F',F',F',F',F',F',F',F']) (by kernel_rfl) ?_
    refine h_case 26 rfl (fun hb => ?_) (fun hb => ?_)
    · have hr26 := hb
      replace hb := of_decide_eq_true hb
      have hfst := hb
      refine h_listed (listed' := #[T',T',T',T',T',T',T',T',T',T',T',T',F',F',F',F',F',F',F',F',F',F',F',F']) (by kernel_rfl) ?_
      refine h_t 12 rfl rfl (by kernel_rfl) (fun _ _ _ h => h) ⟨hK, hE⟩ rfl (fun W hW => r_move rfl) ?_
      refine h_listed (listed' := #[T',T',T',T',T',T',T',T',T',T',T',T',T',F',F',F',F',F',F',F',F',F',F',F']) (by kernel_rfl) ?_
      refine h_t 13 rfl rfl (by kernel_rfl) (fun _ _ _ h => h) ⟨hK, hE⟩ rfl (fun W hW => r_nilCheck rfl rfl) ?_
      refine h_listed (listed' := #[T',T',T',T',T',T',T',T',T',T',T',T',T',T',F',F',F',F',F',F',F',F',F',F']) (by kernel_rfl) ?_
      refine h_t 14 rfl rfl (by kernel_rfl) (fun _ _ _ h => h) ⟨hK, hE⟩ rfl (fun W hW => r_fieldAddr (n := 0) rfl Tryz.underlying68 rfl Tryz.sizeOf25 rfl) ?_
      refine h_listed (listed' := #[T',T',T',T',T',T',T',T',T',T',T',T',T',T',T',F',F',F',F',F',F',F',F',F']) (by kernel_rfl) ?_
      refine h_t 15 rfl rfl (by kernel_rfl) (fun _ _ _ h => h) ⟨hK, hE⟩ rfl (fun W hW => r_load rfl Tryz.isAgg25 rfl (Ext0.cells hW.2 _ _ hx1)) ?_
      refine h_listed (listed' := #[T',T',T',T',T',T',T',T',T',T',T',T',T',T',T',T',F',F',F',F',F',F',F',F']) (by kernel_rfl) ?_
      refine h_t 16 rfl rfl (by kernel_rfl) (fun _ _ _ h => h) ⟨hK, hE⟩ rfl (fun W hW => r_move rfl) ?_
      refine h_listed (listed' := #[T',T',T',T',T',T',T',T',T',T',T',T',T',T',T',T',T',F',F',F',F',F',F',F']) (by kernel_rfl) ?_
      refine h_t 17 rfl rfl (by kernel_rfl) (fun _ _ _ h => h) ⟨hK, hE⟩ rfl (fun W hW => r_indexAddr_sl rfl Tryz.underlying25 Tryz.sizeOf43 rfl hl.is rfl (by omega) (by omega)) ?_
      refine h_listed (listed' := #[T',T',T',T',T',T',T',T',T',T',T',T',T',T',T',T',T',T',F',F',F',F',F',F']) (by kernel_rfl) ?_
      refine h_t 18 rfl rfl (by kernel_rfl) (fun _ _ _ h => h) ⟨hK, hE⟩ rfl (fun W hW => r_fieldAddr (n := 0) rfl Tryz.underlying43 rfl Tryz.sizeOf3 rfl) ?_
      refine h_listed (listed' := #[T',T',T',T',T',T',T',T',T',T',T',T',T',T',T',T',T',T',T',F',F',F',F',F']) (by kernel_rfl) ?_
      refine h_t 19 rfl rfl (by kernel_rfl) (fun _ _ _ h => h) ⟨hK, hE⟩ rfl (fun W hW => r_load rfl Tryz.isAgg3 rfl (Ext0.cells hW.2 _ _ (hcell 1 _ rfl))) ?_
      refine h_listed (listed' := #[T',T',T',T',T',T',T',T',T',T',T',T',T',T',T',T',T',T',T',T',F',F',F',F']) (by kernel_rfl) ?_
      refine h_t 20 rfl rfl (by kernel_rfl) (fun _ _ _ h => h) ⟨hK, hE⟩ rfl (fun W hW => r_indexAddr_arr rfl Tryz.underlying32 Tryz.sizeOf3 rfl rfl (by decide) (by decide)) ?_
      refine h_listed (listed' := #[T',T',T',T',T',T',T',T',T',T',T',T',T',T',T',T',T',T',T',T',T',F',F',F']) (by kernel_rfl) ?_
      refine h_t 21 rfl rfl (by kernel_rfl) (fun _ _ _ h => h) ⟨hK, hE⟩ rfl (fun W hW => r_load (v := .int .i64 p.2) rfl Tryz.isAgg3 rfl (blk_raw (cs := #[.int .i64 p.1, .int .i64 p.2]) (hW.1.get 0 rfl) rfl 1 _ rfl)) ?_
      refine h_listed (listed' := #[T',T',T',T',T',T',T',T',T',T',T',T',T',T',T',T',T',T',T',T',T',T',F',F']) (by kernel_rfl) ?_
      refine h_t 22 rfl rfl (by kernel_rfl) (fun _ _ _ h => h) ⟨hK, hE⟩ rfl (fun W hW => r_eql rfl rfl rfl) ?_
      refine h_listed (listed' := #[T',T',T',T',T',T',T',T',T',T',T',T',T',T',T',T',T',T',T',T',T',T',T',F']) (by kernel_rfl) ?_
      refine h_t 23 rfl rfl (by kernel_rfl) (fun _ _ _ h => h) ⟨hK, hE⟩ rfl (fun W hW => r_pick rfl rfl) ?_
      refine h_listed (listed' := #[T',T',T',T',T',T',T',T',T',T',T',T',T',T',T',T',T',T',T',T',T',T',T',T']) (by kernel_rfl) ?_
      refine h_done (by kernel_rfl) ?_
      refine c_cond rfl (fun hb => ?_) (fun hb => ?_)
      · have hr38 := hb
        replace hb := of_decide_eq_true hb
        have heq : ((fv.getD k (Fact.nil, .slice none 0 0)).1.a, (fv.getD k (Fact.nil, .slice none 0 0)).1.b) = p := Prod.ext hfst hb
        refine c_seq ?_
     
        refine c_ops ?_
        refine l_val rfl rfl rfl (r_move rfl) ?_
        refine l_val rfl rfl rfl (r_assign rfl) ?_
        refine l_nil ?_
        refine c_ret ?_
        exact ⟨ret_int rfl (by rw [hfind, hstep, if_pos heq]; rfl), hE⟩
      · have hr38 := hb
        replace hb := of_decide_eq_false hb
        have hne : ¬ ((fv.getD k (Fact.nil, .slice none 0 0)).1.a, (fv.getD k (Fact.nil, .slice none 0 0)).1.b) = p := fun e => hb (congrArg Prod.snd e)
        refine c_skip ?_
     
        refine c_ops ?_
        refine l_val rfl rfl rfl (r_move rfl) ?_
        refine l_val rfl rfl rfl (r_add rfl rfl rfl) ?_
        refine l_val rfl rfl rfl (r_assign rfl) ?_
        refine l_nil ?_
        exact ⟨fv.length - (k + 1), by omega, ⟨rfl, rfl⟩, k + 1, by omega, rfl, by show Value.int .i64 (IntKind.i64.wrap ((k : Int) + 1)) = _; rw [wrap_succ hklt hl.max], by rw [hfind, hstep, if_neg hne], hL, hE⟩
    · have hr26 := hb
      replace hb := of_decide_eq_false hb
      have hne : ¬ ((fv.getD k (Fact.nil, .slice none 0 0)).1.a, (fv.getD k (Fact.nil, .slice none 0 0)).1.b) = p := fun e => hb (congrArg Prod.fst e)
      refine h_listed (listed' := #[T',T',T',T',T',T',T',T',T',T',T',T',F',F',F',F',F',F',F',F',F',F',F',F']) (by kernel_rfl) ?_
      refine h_n 12 rfl rfl (by kernel_rfl) (fun _ _ _ h => h) ⟨hK, hE⟩ rfl ?_
      refine h_listed (listed' := #[T',T',T',T',T',T',T',T',T',T',T',T',T',F',F',F',F',F',F',F',F',F',F',F']) (by kernel_rfl) ?_
      refine h_n 13 rfl rfl (by kernel_rfl) (fun _ _ _ h => h) ⟨hK, hE⟩ rfl ?_
      refine h_listed (listed' := #[T',T',T',T',T',T',T',T',T',T',T',T',T',T',F',F',F',F',F',F',F',F',F',F']) (by kernel_rfl) ?_
      refine h_n 14 rfl rfl (by kernel_rfl) (fun _ _ _ h => h) ⟨hK, hE⟩ rfl ?_
      refine h_listed (listed' := #[T',T',T',T',T',T',T',T',T',T',T',T',T',T',T',F',F',F',F',F',F',F',F',F']) (by kernel_rfl) ?_
      refine h_n 15 rfl rfl (by kernel_rfl) (fun _ _ _ h => h) ⟨hK, hE⟩ rfl ?_
      refine h_listed (listed' := #[T',T',T',T',T',T',T',T',T',T',T',T',T',T',T',T',F',F',F',F',F',F',F',F']) (by kernel_rfl) ?_
      refine h_n 16 rfl rfl (by kernel_rfl) (fun _ _ _ h => h) ⟨hK, hE⟩ rfl ?_
      refine h_listed (listed' := #[T',T',T',T',T',T',T',T',T',T',T',T',T',T',T',T',T',F',F',F',F',F',F',F']) (by kernel_rfl) ?_
      refine h_n 17 rfl rfl (by kernel_rfl) (fun _ _ _ h => h) ⟨hK, hE⟩ rfl ?_
      refine h_listed (listed' := #[T',T',T',T',T',T',T',T',T',T',T',T',T',T',T',T',T',T',F',F',F',F',F',F']) (by kernel_rfl) ?_
      refine h_n 18 rfl rfl (by kernel_rfl) (fun _ _ _ h => h) ⟨hK, hE⟩ rfl ?_
      refine h_listed (listed' := #[T',T',T',T',T',T',T',T',T',T',T',T',T',T',T',T',T',T',T',F',F',F',F',F']) (by kernel_rfl) ?_
      refine h_n 19 rfl rfl (by kernel_rfl) (fun _ _ _ h => h) ⟨hK, hE⟩ rfl ?_
      refine h_listed (listed' := #[T',T',T',T',T',T',T',T',T',T',T',T',T',T',T',T',T',T',T',T',F',F',F',F']) (by kernel_rfl) ?_
      refine h_n 20 rfl rfl (by kernel_rfl) (fun _ _ _ h => h) ⟨hK, hE⟩ rfl ?_
      refine h_listed (listed' := #[T',T',T',T',T',T',T',T',T',T',T',T',T',T',T',T',T',T',T',T',T',F',F',F']) (by kernel_rfl) ?_
      refine h_n 21 rfl rfl (by kernel_rfl) (fun _ _ _ h => h) ⟨hK, hE⟩ rfl ?_
      refine h_listed (listed' := #[T',T',T',T',T',T',T',T',T',T',T',T',T',T',T',T',T',T',T',T',T',T',F',F']) (by kernel_rfl) ?_
      refine h_n 22 rfl rfl (by kernel_rfl) (fun _ _ _ h => h) ⟨hK, hE⟩ rfl ?_
      refine h_listed (listed' := #[T',T',T',T',T',T',T',T',T',T',T',T',T',T',T',T',T',T',T',T',T',T',T',F']) (by kernel_rfl) ?_
      refine h_t 23 rfl rfl (by kernel_rfl) (fun _ _ _ h => h) ⟨hK, hE⟩ rfl (fun W hW => r_pick rfl rfl) ?_
      refine h_listed (listed' := #[T',T',T',T',T',T',T',T',T',T',T',T',T',T',T',T',T',T',T',T',T',T',T',T']) (by kernel_rfl) ?_
      refine h_done (by kernel_rfl) ?_
      refine c_no rfl ?_
      refine c_skip ?_
   
      refine c_ops ?_
      refine l_val rfl rfl rfl (r_move rfl) ?_
      refine l_val rfl rfl rfl (r_add rfl rfl rfl) ?_
      refine l_val rfl rfl rfl (r_assign rfl) ?_
      refine l_nil ?_
      exact ⟨fv.length - (k + 1), by omega, ⟨rfl, rfl⟩, k + 1, by omega, rfl, by show Value.int .i64 (IntKind.i64.wrap ((k : Int) + 1)) = _; rw [wrap_succ hklt hl.max], by rw [hfind, hstep, if_neg hne], hL, hE⟩
  · have hr12 := hb
    replace hb := of_decide_eq_false hb
    refine c_exit ?_
    refine c_seq ?_
 
    refine c_ops ?_
    refine l_val rfl rfl rfl (r_assign rfl) ?_
    refine l_nil ?_
    refine c_ret ?_
    exact ⟨ret_int rfl (by rw [hfind, List.drop_eq_nil_of_le (by simp; omega)]; rfl), hE⟩
theorem pick12_rcalls (w0 : World) (pb : Nat) (Ag : Option Addr) (cg : Nat) (g : List GNode) (Ai : Option Addr) (ci : Nat) (hG : Grid w0 pb Ag g.length cg false Ai ci (mayX g false)) (hg : Nodes w0 Ag cg g) (hok : GraphOk g) (v : Value) (p : Int × Int) (hp : InG g.length p) (ha8 : (gat g p.1).kind ≠ 8) :
    Calls Tryz.prog 57 [.pointer (some ⟨pb, 0, none⟩), v, .agg #[.int .i64 p.1, .int .i64 p.2]].toArray w0 fun en w' => en = .returned (.int .i64 (pickX g false (mayX g false) p.1 p.2)) ∧ Ext0 w0 w' := by
  have hE : Ext0 w0 w0 := Ext.refl _ _
  have hL : Has w0 [] := trivial
  refine calls [6] Tryz.func57 rfl rfl rfl rfl ?_
  refine c_seq ?_
  refine c_ops ?_
  refine l_new rfl rfl rfl (n_box rfl hL hE) ?_
  rintro _ w ⟨b5, rfl, hb5, hL, hE, hX⟩
  refine l_val rfl rfl rfl (r_assign rfl) ?_
  refine l_nil ?_
  refine c_seq ?_
  refine c_ops ?_
  refine l_val rfl rfl rfl (r_move rfl) ?_
  refine l_val rfl rfl rfl (r_indexAddr_arr rfl Tryz.underlying32 Tryz.sizeOf3 rfl rfl (by decide) (by decide)) ?_
  refine l_val rfl rfl rfl (r_load (v := .int .i64 p.1) rfl Tryz.isAgg3 rfl (blk_raw (cs := #[.int .i64 p.1, .int .i64 p.2]) (hL.get 0 rfl) rfl 0 _ rfl)) ?_
  refine l_val rfl rfl rfl (r_indexAddr_arr rfl Tryz.underlying32 Tryz.sizeOf3 rfl rfl (by decide) (by decide)) ?_
  refine l_val rfl rfl rfl (r_load (v := .int .i64 p.2) rfl Tryz.isAgg3 rfl (blk_raw (cs := #[.int .i64 p.1, .int .i64 p.2]) (hL.get 0 rfl) rfl 1 _ rfl)) ?_
  refine l_by rfl rfl rfl (r_call rfl rfl Tryz.func84 rfl rfl) (Pick_rcalls _ (hG.keep (Ext0.cells hE)) (hg.keep RNode.kept (Ext0.cells hE)) hok p.1 p.2 hp.1 hp.2.1 ha8 hp.2.2.1 hp.2.2.2) ?_
  rintro _ w ⟨rfl, hX⟩
  replace hL := hL.ext0 hX
  replace hE := hE.step0 hX
  refine ⟨_, rfl, ?_⟩
  refine l_val rfl rfl rfl (r_assign rfl) ?_
  refine l_nil ?_
  refine c_ret ?_
  exact ⟨rfl, hE⟩
end Go.Proofs.YtndophlnapjkhaaGreatDoor.Vc
namespace Go.Proofs.YtndophlnapjkhaaGreatDoor.Vc
open Go Go.RowKit
set_option linter.unusedVariables false
set_option linter.unusedSimpArgs false
abbrev fxR (Ag : Option Addr) (n cg : Nat) (lv : Value) : Obj := .cells #[.slice Ag n cg, lv] 68 (0, 0)
abbrev FR (xb B : Nat) (Ag : Option Addr) (n cg : Nat) (lv : Value) (fv : List FV) : List Res := [.blk xb (fxR Ag n cg lv), .row B 43 3 lv fv.length (fv.map fcell).flatten]
def FSR (xb : Nat) (lv : Value) : Nat → Prop := fun k => k = xb ∨ lv.ownBlock = some k
theorem FSR.res {xb B n cg : Nat} {Ag : Option Addr} {lv : Value} {fv : List FV} {k : Nat} (h : FSR xb lv k) : ∃ r ∈ FR xb B Ag n cg lv fv, r.foot = some k := by
  rcases h with rfl | h
  · exact ⟨_, List.mem_cons_self, rfl⟩
  · exact ⟨_, List.mem_cons_of_mem _ List.mem_cons_self, h⟩
def FindResR (w0 : World) (xb B : Nat) (Ag : Option Addr) (cg : Nat) (g : List GNode) (fv : List FV) (lv : Value) (r : Int × List Fact) (en : Ending) (w' : World) : Prop :=
  en = .returned (.int .i64 r.1) ∧ ∃ (lv' : Value) (news : List FV), r.2 = (fv ++ news).map (·.1) ∧ Has w' (FR xb B Ag g.length cg lv' (fv ++ news) ++ news.map (fres 3 B)) ∧ Ext (FSR xb lv) w0 w' ∧ (∀ x ∈ news, ∀ b, x.2.ownBlock = some b → w0.heap.size ≤ b) ∧ (∀ b, lv'.ownBlock = some b → lv.ownBlock = some b ∨ w0.heap.size ≤ b)
def FindCR (wB : World) (xb pb : Nat) (Ag : Option Addr) (cg : Nat) (g : List GNode) (k : Nat) : Prop :=
  ∀ (w0 : World) (p : Int × Int) (fv : List FV) (lv : Value), Ext0 wB w0 → Has w0 (FR xb wB.heap.size Ag g.length cg lv fv) → GoodL g (fv.map (·.1)) → InG g.length p → mayX g false p = true → g.length * g.length + 1 ≤ k + fv.length →
    Calls Tryz.prog 32 [.pointer (some ⟨xb, 0, none⟩), .agg #[.int .i64 p.1, .int .i64 p.2], .pointer (some ⟨pb, 0, none⟩)].toArray w0 (FindResR w0 xb wB.heap.size Ag cg g fv lv (findF g k p (fv.map (·.1))))
theorem fr_foot {w : World} {xb B n cg ie B' : Nat} {Ag : Option Addr} {lv lv' : Value} {fv fv' news : List FV} (hn : ∀ x ∈ news, ∀ b, x.2.ownBlock = some b → w.heap.size ≤ b) (hl : ∀ b, lv'.ownBlock = some b → lv.ownBlock = some b ∨ w.heap.size ≤ b) : ∀ r ∈ FR xb B Ag n cg lv' fv' ++ news.map (fres ie B'), ∀ b, r.foot = some b → (∃ q ∈ FR xb B Ag n cg lv fv, q.foot = some b) ∨ w.heap.size ≤ b := by
  intro r hr b hb
  rcases List.mem_append.1 hr with hr | hr
  · rcases List.mem_cons.1 hr with rfl | hr
    · exact .inl ⟨_, List.mem_cons_self, hb⟩
    rw [List.mem_singleton] at hr
    subst hr
    rcases hl b hb with h | h
    · exact .inl ⟨_, List.mem_cons_of_mem _ List.mem_cons_self, h⟩
    · exact .inr h
  · obtain ⟨x, hx, rfl⟩ := List.mem_map.1 hr
    exact .inr (hn x hx b hb)
theorem at_of {w0 : World} {xb B : Nat} {Ag Al : Option Addr} {n cg n' cl : Nat} {fv : List FV} (hL : Has w0 (FR xb B Ag n cg (.slice Al n' cl) fv)) : w0.cell? ⟨xb, 1, none⟩ = some (.slice Al fv.length cl) ∧ Sl w0 3 RFV Al fv.length cl fv := by
  obtain ⟨h1, h2⟩ := fv_sl (hL.row 1 rfl)
  subst h2
  exact ⟨by rw [blk_cell (hL.get 0 rfl)]; rfl, h1⟩
theorem find_someR (wB : World) (xb pb : Nat) (Ag : Option Addr) (cg : Nat) (g : List GNode) (k : Nat) (w0 : World) (p : Int × Int) (fv : List FV) (lv : Value) (i : Nat) (ha : atP p 0 (fv.map (·.1)) = some i) (hL : Has w0 (FR xb wB.heap.size Ag g.length cg lv fv)) :
    Calls Tryz.prog 32 [.pointer (some ⟨xb, 0, none⟩), .agg #[.int .i64 p.1, .int .i64 p.2], .pointer (some ⟨pb, 0, none⟩)].toArray w0 (FindResR w0 xb wB.heap.size Ag cg g fv lv (findF g (k + 1) p (fv.map (·.1)))) := by
  have hE : Ext (FSR xb lv) w0 w0 := Ext.refl _ _
  obtain ⟨Al, cl, rfl⟩ := ownsRow_slice (hL.row 1 rfl)
  rw [findF_some ha]
  refine calls [6] Tryz.func32 rfl rfl rfl rfl ?_
  refine c_seq ?_
  refine c_ops ?_
  refine l_new rfl rfl rfl (n_box rfl hL hE) ?_
  rintro _ w ⟨b4, rfl, hb4, hL, hE, hX⟩
  refine l_val rfl rfl rfl (r_assign rfl) ?_
  refine l_nil ?_
  refine c_seq ?_
  refine c_seq ?_
  refine c_ops ?_
  refine l_val rfl rfl rfl (r_move rfl) ?_
  refine l_val rfl rfl rfl (r_load_agg (vs := cells2 p) rfl Tryz.isAgg32 Tryz.sizeOf32 rfl (blk_raw (cs := #[.int .i64 p.1, .int .i64 p.2]) (hL.get 0 rfl) rfl)) ?_
  refine l_by rfl rfl rfl (r_call rfl rfl Tryz.func56 rfl rfl) (at_rcalls _ xb Al cl fv (at_of (hL.sub (.cons _ (.refl _)))).1 (at_of (hL.sub (.cons _ (.refl _)))).2 p) ?_
  rintro _ w ⟨hen, hX⟩
  rw [ha] at hen
  subst hen
  replace hL := hL.ext0 hX
  replace hE := hE.step0 hX
  refine ⟨_, rfl, ?_⟩
  refine l_val rfl rfl rfl (r_assign rfl) ?_
  refine l_nil ?_
  refine c_seq ?_
  refine c_ops ?_
  refine l_val rfl rfl rfl (r_move rfl) ?_
  refine l_val rfl rfl rfl (r_geq rfl rfl rfl) ?_
  refine l_nil ?_
  refine c_cond rfl (fun hb => ?_) (fun hb => ?_)
  · have hr19 := hb
    replace hb := of_decide_eq_true hb
    refine c_seq ?_
 
    refine c_ops ?_
    refine l_val rfl rfl rfl (r_move rfl) ?_
    refine l_val rfl rfl rfl (r_assign rfl) ?_
    refine l_nil ?_
    refine c_ret ?_
    exact ⟨rfl, _, [], by simp, by simpa using hL.tail, hE, fun x hx => by simp at hx, fun b hb => .inl hb⟩
  · have hr19 := hb
    replace hb := of_decide_eq_false hb
    simp only [idxV] at hb; omega
set_option maxHeartbeats 16000000 in
theorem find_noneR (wB : World) (xb pb : Nat) (hxB : wB.heap.size ≤ xb) (Ag : Option Addr) (cg : Nat) (g : List GNode) (Ai : Option Addr) (ci : Nat) (hG : Grid wB pb Ag g.length cg false Ai ci (mayX g false)) (hg : Nodes wB Ag cg g) (hok : GraphOk g) (hn : g.length ≤ 16) (k : Nat) (IH : FindCR wB xb pb Ag cg g k)
    (w0 : World) (p : Int × Int) (fv : List FV) (lv : Value) (hB : Ext0 wB w0) (ha : atP p 0 (fv.map (·.1)) = none) (hL : Has w0 (FR xb wB.heap.size Ag g.length cg lv fv)) (hgood : GoodL g (fv.map (·.1))) (hp : InG g.length p) (hm : mayX g false p = true) (hk : g.length * g.length + 1 ≤ k + 1 + fv.length) :
    Calls Tryz.prog 32 [.pointer (some ⟨xb, 0, none⟩), .agg #[.int .i64 p.1, .int .i64 p.2], .pointer (some ⟨pb, 0, none⟩)].toArray w0 (FindResR w0 xb wB.heap.size Ag cg g fv lv (findF g (k + 1) p (fv.map (·.1)))) := by
  have hE : Ext (FSR xb lv) w0 w0 := Ext.refl _ _
  have hXB : ∀ {W : World}, Ext (FSR xb lv) w0 W → Ext0 wB W := fun h => hB.step h (fun j hj hs => by
    rcases hs with rfl | hs
    · omega
    · have := (ownsRow_lt (hL.row 1 rfl) hs).2
      omega)
  have hnn : g.length * g.length ≤ 256 := Nat.le_trans (Nat.mul_le_mul hn hn) (by decide)
  have hnp := (atP_none (p := p) (fv.map (·.1)) 0).1 ha
  have hflt : fv.length < g.length * g.length := by simpa using hgood.lt hnp hp
  have hfnd := found_p hok hp hm
  have hg1 : GoodL g (fv.map (·.1) ++ [firstP g p]) := hgood.snoc hnp hp
  have hall := fun (n : Nat) => (all_is (F := findF g k) (N := fv.length + 1) ((onP g p).take n) (fv.map (·.1) ++ [firstP g p]) (fun q hq l' hl' hgl => one_is hok k q l' hgl (hfnd.inn q (List.mem_of_mem_take hq)).1 (hfnd.inn q (List.mem_of_mem_take hq)).2 (by omega)) (by simp) hg1).out
  rw [findF_none ha, List.length_map]
  have hsz : wB.heap.size ≤ w0.heap.size := hB.size
  obtain ⟨Ak, ck, Al0, cl0, hnd, _, _⟩ := hg.node p.1 hp.1 hp.2.1
  obtain ⟨Al, cl, rfl⟩ := ownsRow_slice (hL.row 1 rfl)
  refine calls [6] Tryz.func32 rfl rfl rfl rfl ?_
  refine c_seq ?_
  refine c_ops ?_
  refine l_new rfl rfl rfl (n_box rfl hL hE) ?_
  rintro _ w ⟨b4, rfl, hb4, hL, hE, hX⟩
  refine l_val rfl rfl rfl (r_assign rfl) ?_
  refine l_nil ?_
  refine c_seq ?_
  refine c_seq ?_
  refine c_ops ?_
  refine l_val rfl rfl rfl (r_move rfl) ?_
  refine l_val rfl rfl rfl (r_load_agg (vs := cells2 p) rfl Tryz.isAgg32 Tryz.sizeOf32 rfl (blk_raw (cs := #[.int .i64 p.1, .int .i64 p.2]) (hL.get 0 rfl) rfl)) ?_
  refine l_by rfl rfl rfl (r_call rfl rfl Tryz.func56 rfl rfl) (at_rcalls _ xb Al cl fv (at_of (hL.sub (.cons _ (.refl _)))).1 (at_of (hL.sub (.cons _ (.refl _)))).2 p) ?_
  rintro _ w ⟨hen, hX⟩
  rw [ha] at hen
  subst hen
  replace hL := hL.ext0 hX
  replace hE := hE.step0 hX
  refine ⟨_, rfl, ?_⟩
  refine l_val rfl rfl rfl (r_assign rfl) ?_
  refine l_nil ?_
  refine c_seq ?_
  refine c_ops ?_
  refine l_val rfl rfl rfl (r_move rfl) ?_
  refine l_val rfl rfl rfl (r_geq rfl rfl rfl) ?_
  refine l_nil ?_
  refine c_cond rfl (fun hb => ?_) (fun hb => ?_)
  · have hr19 := hb
    replace hb := of_decide_eq_true hb
    simp only [idxV] at hb; omega
  · have hr19 := hb
    replace hb := of_decide_eq_false hb
    refine c_skip ?_
    refine c_seq ?_
 
    refine c_ops ?_
    refine l_val rfl rfl rfl (r_move rfl) ?_
    refine l_val rfl rfl rfl (r_nilCheck rfl rfl) ?_
    refine l_val rfl rfl rfl (r_fieldAddr (n := 0) rfl Tryz.underlying68 rfl Tryz.sizeOf25 rfl) ?_
    refine l_val rfl rfl rfl (r_load_blk rfl Tryz.isAgg25 rfl (hL.get 1 rfl) rfl) ?_
    refine l_val rfl rfl rfl (r_len rfl Tryz.underlying25 rfl) ?_
    refine l_val rfl rfl rfl (r_assign rfl) ?_
    refine l_nil ?_
    refine c_seq ?_
    refine c_seq ?_
 
    refine c_ops ?_
    refine l_val rfl rfl rfl (r_move rfl) ?_
    refine l_val rfl rfl rfl (r_gtr rfl rfl rfl) ?_
    refine l_nil ?_
    refine c_cond rfl (fun hb => ?_) (fun hb => ?_)
    · have hr27 := hb
      replace hb := of_decide_eq_true hb
      omega
    · have hr27 := hb
      replace hb := of_decide_eq_false hb
      refine c_skip ?_
      refine c_seq ?_
   
      refine c_ops ?_
      refine l_val rfl rfl rfl (r_indexAddr_arr rfl Tryz.underlying32 Tryz.sizeOf3 rfl rfl (by decide) (by decide)) ?_
      refine l_val rfl rfl rfl (r_load (v := .int .i64 p.1) rfl Tryz.isAgg3 rfl (blk_raw (cs := #[.int .i64 p.1, .int .i64 p.2]) (hL.get 0 rfl) rfl 0 _ rfl)) ?_
      refine l_val rfl rfl rfl (r_indexAddr_arr rfl Tryz.underlying32 Tryz.sizeOf3 rfl rfl (by decide) (by decide)) ?_
      refine l_val rfl rfl rfl (r_load (v := .int .i64 p.2) rfl Tryz.isAgg3 rfl (blk_raw (cs := #[.int .i64 p.1, .int .i64 p.2]) (hL.get 0 rfl) rfl 1 _ rfl)) ?_
      refine l_val rfl rfl rfl (r_build rfl rfl (built_fact0 _ _)) ?_
      refine l_new rfl rfl rfl (n_alloc rfl Tryz.zeroValue43 hL hE) ?_
      rintro _ w ⟨b9, rfl, hb9, hL, hE, hX⟩
      refine l_new_do rfl rfl (r_store 0 rfl Tryz.sizeOf43 rfl hL hE rfl rfl rfl rfl (fun h => absurd h (Nat.not_lt.2 hb9))) ?_
      rintro w ⟨hL, hE, hz, hk⟩
      refine l_nil ?_
      refine c_merge [34, 35, 36, 37, 38, 39, 40, 41, 42, 43, 44, 45, 46, 47, 48, 49, 50, 51, 52] (fun e w => ∃ wv, (∀ b, wv.ownBlock = some b → w0.heap.size ≤ b) ∧ Has w [.row wB.heap.size 3 1 wv (firstP g p).why.length ((firstP g p).why.map (Value.int .i64)), .blk b9 (.cells #[.int .i64 p.1, .int .i64 p.2, wv] 43 (0, 0)), .blk b4 (.cells #[.int .i64 p.1, .int .i64 p.2] 32 (0, 0)), .blk xb (fxR Ag g.length cg (Value.slice Al fv.length cl)), .row wB.heap.size 43 3 (Value.slice Al fv.length cl) (fv).length ((fv).map fcell).flatten] ∧ Ext (FSR xb (.slice Al fv.length cl)) w0 w) ?_ ?_
      · refine c_seq ?_
     
        refine c_draw mixed (hL) hE ?_
        replace hL := hL.drew
        replace hE := hE.drew
        have hK := hL
        refine h_t 0 rfl rfl (by kernel_rfl) (fun _ _ _ h => h) ⟨hK, hE⟩ rfl (fun W hW => r_move rfl) ?_
        refine h_t 1 rfl rfl (by kernel_rfl) (fun _ _ _ h => h) ⟨hK, hE⟩ rfl (fun W hW => r_nilCheck rfl rfl) ?_
        refine h_t 2 rfl rfl (by kernel_rfl) (fun _ _ _ h => h) ⟨hK, hE⟩ rfl (fun W hW => r_fieldAddr (n := 0) rfl Tryz.underlying68 rfl Tryz.sizeOf22 rfl) ?_
        refine h_t 3 rfl rfl (by kernel_rfl) (fun _ _ _ h => h) ⟨hK, hE⟩ rfl (fun W hW => r_load_blk rfl Tryz.isAgg22 rfl (hW.1.get 2 rfl) rfl) ?_
        refine h_t 4 rfl rfl (by kernel_rfl) (fun _ _ _ h => h) ⟨hK, hE⟩ rfl (fun W hW => r_indexAddr_arr rfl Tryz.underlying32 Tryz.sizeOf3 rfl rfl (by decide) (by decide)) ?_
        refine h_t 5 rfl rfl (by kernel_rfl) (fun _ _ _ h => h) ⟨hK, hE⟩ rfl (fun W hW => r_load (v := .int .i64 p.1) rfl Tryz.isAgg3 rfl (blk_raw (cs := #[.int .i64 p.1, .int .i64 p.2]) (hW.1.get 1 rfl) rfl 0 _ rfl)) ?_
        refine h_t 6 rfl rfl (by kernel_rfl) (fun _ _ _ h => h) ⟨hK, hE⟩ rfl (fun W hW => r_indexAddr_sl rfl Tryz.underlying22 Tryz.sizeOf46 rfl hg.is rfl hp.1 hp.2.1) ?_
        refine h_t 7 rfl rfl (by kernel_rfl) (fun _ _ _ h => h) ⟨hK, hE⟩ rfl (fun W hW => r_fieldAddr (n := 0) rfl Tryz.underlying46 rfl Tryz.sizeOf3 rfl) ?_
        refine h_t 8 rfl rfl (by kernel_rfl) (fun _ _ _ h => h) ⟨hK, hE⟩ rfl (fun W hW => r_load rfl Tryz.isAgg3 rfl (Ext0.cells (hXB hW.2) _ _ (hnd 0 _ rfl))) ?_
        refine h_t 9 rfl rfl (by kernel_rfl) (fun _ _ _ h => h) ⟨hK, hE⟩ rfl (fun W hW => r_neq rfl rfl rfl) ?_
        refine h_done (by kernel_rfl) ?_
        refine c_cond rfl (fun hb => ?_) (fun hb => ?_)
        · have hr43 := hb
          replace hb := of_decide_eq_false (by simpa using hb)
       
          refine c_draw mixed (hL.sub (.cons _ (.cons_cons _ (.cons_cons _ (.cons_cons _ .slnil))))) hE ?_
          replace hL := hL.drew
          replace hE := hE.drew
          have hK := hL.sub (.cons _ (.cons_cons _ (.cons_cons _ (.cons_cons _ .slnil))))
          refine h_t 0 rfl rfl (by kernel_rfl) (fun _ _ _ h => h) ⟨hK, hE⟩ rfl (fun W hW => r_move rfl) ?_
          refine h_t 1 rfl rfl (by kernel_rfl) (fun _ _ _ h => h) ⟨hK, hE⟩ rfl (fun W hW => r_move rfl) ?_
          refine h_t 2 rfl rfl (by kernel_rfl) (fun _ _ _ h => h) ⟨hK, hE⟩ rfl (fun W hW => r_nilCheck rfl rfl) ?_
          refine h_t 3 rfl rfl (by kernel_rfl) (fun _ _ _ h => h) ⟨hK, hE⟩ rfl (fun W hW => r_fieldAddr (n := 0) rfl Tryz.underlying68 rfl Tryz.sizeOf22 rfl) ?_
          refine h_t 4 rfl rfl (by kernel_rfl) (fun _ _ _ h => h) ⟨hK, hE⟩ rfl (fun W hW => r_load_blk rfl Tryz.isAgg22 rfl (hW.1.get 1 rfl) rfl) ?_
          refine h_t 5 rfl rfl (by kernel_rfl) (fun _ _ _ h => h) ⟨hK, hE⟩ rfl (fun W hW => r_load_agg (vs := cells2 p) rfl Tryz.isAgg32 Tryz.sizeOf32 rfl (blk_raw (cs := #[.int .i64 p.1, .int .i64 p.2]) (hW.1.get 0 rfl) rfl)) ?_
          refine h_by 6 rfl rfl (by kernel_rfl) rfl (r_call rfl rfl Tryz.func57 rfl rfl) (pick12_rcalls _ pb Ag cg g Ai ci (hG.keep (Ext0.cells (hXB hE))) (hg.keep RNode.kept (Ext0.cells (hXB hE))) hok _ p hp hb) ?_
          rintro _ w ⟨rfl, hX⟩
          replace hL := hL.ext0 hX
          replace hE := hE.step0 hX
          have hK := hL.sub (.cons _ (.cons_cons _ (.cons_cons _ (.cons_cons _ .slnil))))
          refine ⟨_, rfl, ⟨hK, hE⟩, ?_⟩
          refine h_new 7 rfl rfl (by kernel_rfl) rfl (n_slice rfl Tryz.underlying26 Tryz.sizeOf3 Tryz.zeroValue3 rfl rfl (fill_int1 _) hL hE) ?_
          rintro _ w ⟨s51, rfl, hs51, hL, hE, hX⟩
          have hK := hL.sub (.cons _ (.cons _ (.cons_cons _ (.cons_cons _ (.cons_cons _ .slnil)))))
          refine ⟨⟨hK, hE⟩, ?_⟩
          refine h_t 8 rfl rfl (by kernel_rfl) (fun _ _ _ h => h) ⟨hK, hE⟩ rfl (fun W hW => r_fieldAddr (n := 0) rfl Tryz.underlying43 rfl Tryz.sizeOf26 rfl) ?_
          refine h_new_do 9 rfl rfl (by kernel_rfl) rfl (r_store 1 rfl Tryz.sizeOf26 rfl hL hE rfl rfl rfl rfl (fun h => absurd h (Nat.not_lt.2 hb9))) ?_
          rintro w ⟨hL, hE, hz, hk⟩
          have hK := hL.sub (.cons _ (.cons _ (.cons_cons _ (.cons_cons _ (.cons_cons _ .slnil)))))
          refine ⟨⟨hK, hE⟩, ?_⟩
          refine h_done (by kernel_rfl) ?_
          refine ⟨by repeat (first | exact Agree.over _ _ _ | exact Agree.refl _ _ | (refine Agree.puto ?_ _ _ rfl) | (refine Agree.put ?_ _ _ rfl) | (refine Agree.sub ?_ rfl)), ?_⟩
          first
            | exact ⟨.slice (some ⟨s51, 0, none⟩) 1 1, fun b hb => (by injection hb with hb; rw [← hb]; exact hs51), by rw [firstP_no hb]; exact Has.asRow (n := 1) hL (Nat.le_trans hsz hs51) rfl (by decide), hE⟩
            | exact ⟨.slice none 0 0, fun b hb => (by cases hb), by rw [firstP_8 hb]; exact hL.nilRow _ _ _, hE⟩
        · have hr43 := hb
          replace hb := of_decide_eq_true (by simpa using hb)
          refine c_skip ?_
          refine ⟨by repeat (first | exact Agree.over _ _ _ | exact Agree.refl _ _ | (refine Agree.puto ?_ _ _ rfl) | (refine Agree.put ?_ _ _ rfl) | (refine Agree.sub ?_ rfl)), ?_⟩
          first
            | exact ⟨.slice (some ⟨s51, 0, none⟩) 1 1, fun b hb => (by injection hb with hb; rw [← hb]; exact hs51), by rw [firstP_no hb]; exact Has.asRow (n := 1) hL (Nat.le_trans hsz hs51) rfl (by decide), hE⟩
            | exact ⟨.slice none 0 0, fun b hb => (by cases hb), by rw [firstP_8 hb]; exact hL.nilRow _ _ _, hE⟩
      rintro e w hI
      obtain ⟨wv0, hwv0, hL, hE⟩ := hI
      obtain ⟨Aw, cw, rfl⟩ := ownsRow_slice (hL.row 0 rfl)
      refine c_merge [53, 54, 55, 56, 57, 58, 59, 60, 61, 62] (fun e w => ∃ A1 c1, (∀ b, (Value.slice A1 (fv.length + 1) c1).ownBlock = some b → (Value.slice Al fv.length cl).ownBlock = some b ∨ w0.heap.size ≤ b) ∧ Has w [.row wB.heap.size 3 1 (Value.slice Aw (firstP g p).why.length cw) (firstP g p).why.length ((firstP g p).why.map (Value.int .i64)), .blk b9 (.cells #[.int .i64 p.1, .int .i64 p.2, (Value.slice Aw (firstP g p).why.length cw)] 43 (0, 0)), .blk b4 (.cells #[.int .i64 p.1, .int .i64 p.2] 32 (0, 0)), .blk xb (fxR Ag g.length cg (Value.slice A1 (fv.length + 1) c1)), .row wB.heap.size 43 3 (Value.slice A1 (fv.length + 1) c1) ((fv ++ [(firstP g p, (Value.slice Aw (firstP g p).why.length cw))])).length (((fv ++ [(firstP g p, (Value.slice Aw (firstP g p).why.length cw))])).map fcell).flatten] ∧ Ext (FSR xb (.slice Al fv.length cl)) w0 w) ?_ ?_
      · skip
     
        refine c_draw mixed (hL.sub (.cons_cons _ (.cons_cons _ (.cons_cons _ (.cons _ (.cons _ .slnil)))))) hE ?_
        replace hL := hL.drew
        replace hE := hE.drew
        have hK := hL.sub (.cons_cons _ (.cons_cons _ (.cons_cons _ (.cons _ (.cons _ .slnil)))))
        refine h_t 0 rfl rfl (by kernel_rfl) (fun _ _ _ h => h) ⟨hK, hE⟩ rfl (fun W hW => r_move rfl) ?_
        refine h_t 1 rfl rfl (by kernel_rfl) (fun _ _ _ h => h) ⟨hK, hE⟩ rfl (fun W hW => r_move rfl) ?_
        refine h_t 2 rfl rfl (by kernel_rfl) (fun _ _ _ h => h) ⟨hK, hE⟩ rfl (fun W hW => r_nilCheck rfl rfl) ?_
        refine h_t 3 rfl rfl (by kernel_rfl) (fun _ _ _ h => h) ⟨hK, hE⟩ rfl (fun W hW => r_fieldAddr (n := 0) rfl Tryz.underlying68 rfl Tryz.sizeOf25 rfl) ?_
        refine h_t 5 rfl rfl (by kernel_rfl) (fun _ _ _ h => h) ⟨hK, hE⟩ rfl (fun W hW => r_load_agg (vs := [.int .i64 p.1, .int .i64 p.2, (Value.slice Aw (firstP g p).why.length cw)]) rfl Tryz.isAgg43 Tryz.sizeOf43 rfl (blk_raw (cs := #[.int .i64 p.1, .int .i64 p.2, (Value.slice Aw (firstP g p).why.length cw)]) (hW.1.get 1 rfl) rfl)) ?_
        refine h_many [4, 6] (by kernel_rfl) ⟨?_, ?_, trivial⟩
        · refine o_val 4 rfl rfl rfl rfl (r_load_blk rfl Tryz.isAgg25 rfl (hL.get 3 rfl) rfl) ⟨hK, hE⟩ ?_
          refine h_new 6 rfl rfl (by kernel_rfl) rfl (n_slice (cells := #[.int .i64 p.1, .int .i64 p.2, (Value.slice Aw (firstP g p).why.length cw)]) rfl Tryz.underlying25 Tryz.sizeOf43 Tryz.zeroValue43 rfl rfl (fill_fact _ _ _) hL hE) ?_
          rintro _ w ⟨s59, rfl, hs59, hL, hE, hX⟩
          have hK := hL.sub (.cons _ (.cons_cons _ (.cons_cons _ (.cons_cons _ (.cons _ (.cons _ .slnil))))))
          refine ⟨⟨hK, hE⟩, ?_⟩
          have hE75 := hE.size
          refine h_new 7 rfl rfl (by kernel_rfl) rfl (r_append_own (ys := fcell (firstP g p, (Value.slice Aw (firstP g p).why.length cw))) 5 rfl Tryz.underlying25 info_fact rfl (by decide) rfl rfl hL hE rfl rfl (blk_raw (cs := #[.int .i64 p.1, .int .i64 p.2, (Value.slice Aw (firstP g p).why.length cw)]) (hL.get 0 rfl) rfl) (fun u hu => by simp [fcell] at hu; rcases hu with rfl | rfl | rfl <;> rfl) (by omega) (by omega) (fun b hb _ => .inr hb) (hXB hE).size) ?_
          rintro _ w ⟨hL, hE, hlv1, hlv2⟩
          obtain ⟨A1, c1, rfl⟩ := ownsRow_slice (hL.row 5 rfl)
          replace hL : Has w [.blk s59 (.cells #[.int .i64 p.1, .int .i64 p.2, (Value.slice Aw (firstP g p).why.length cw)] 43 (0, 0)), .row wB.heap.size 3 1 (Value.slice Aw (firstP g p).why.length cw) (firstP g p).why.length ((firstP g p).why.map (Value.int .i64)), .blk b9 (.cells #[.int .i64 p.1, .int .i64 p.2, (Value.slice Aw (firstP g p).why.length cw)] 43 (0, 0)), .blk b4 (.cells #[.int .i64 p.1, .int .i64 p.2] 32 (0, 0)), .blk xb (fxR Ag g.length cg (Value.slice Al fv.length cl)), .row wB.heap.size 43 3 (Value.slice A1 (fv.length + 1) c1) ((fv ++ [(firstP g p, (Value.slice Aw (firstP g p).why.length cw))])).length (((fv ++ [(firstP g p, (Value.slice Aw (firstP g p).why.length cw))])).map fcell).flatten] := by rw [← fcells_snoc, List.length_append]; exact hL
          have hK := hL.sub (.cons _ (.cons_cons _ (.cons_cons _ (.cons_cons _ (.cons _ (.cons _ .slnil))))))
          refine ⟨⟨hK, hE⟩, ?_⟩
          refine h_t 8 rfl rfl (by kernel_rfl) (fun _ _ _ h => h) ⟨hK, hE⟩ rfl (fun W hW => r_nilCheck rfl rfl) ?_
          refine h_t 9 rfl rfl (by kernel_rfl) (fun _ _ _ h => h) ⟨hK, hE⟩ rfl (fun W hW => r_fieldAddr (n := 0) rfl Tryz.underlying68 rfl Tryz.sizeOf25 rfl) ?_
          refine h_new_do 10 rfl rfl (by kernel_rfl) rfl (r_store 4 rfl Tryz.sizeOf25 rfl hL hE rfl rfl rfl rfl (fun _ => .inl rfl)) ?_
          rintro w ⟨hL, hE, hz, hk⟩
          have hK := hL.sub (.cons _ (.cons_cons _ (.cons_cons _ (.cons_cons _ (.cons _ (.cons _ .slnil))))))
          refine ⟨⟨hK, hE⟩, ?_⟩
          refine h_done (by kernel_rfl) ?_
          refine ⟨by repeat (first | exact Agree.over _ _ _ | exact Agree.refl _ _ | (refine Agree.puto ?_ _ _ rfl) | (refine Agree.put ?_ _ _ rfl) | (refine Agree.sub ?_ rfl)), ?_⟩
          exact ⟨A1, c1, fun b hb => (hlv2 b hb).imp id (Nat.le_trans hE75), hL.tail, hE⟩
        · refine o_new 6 rfl rfl rfl rfl (n_slice (cells := #[.int .i64 p.1, .int .i64 p.2, (Value.slice Aw (firstP g p).why.length cw)]) rfl Tryz.underlying25 Tryz.sizeOf43 Tryz.zeroValue43 rfl rfl (fill_fact _ _ _) hL hE) ?_
          rintro _ w ⟨s59, rfl, hs59, hL, hE, hX⟩
          have hK := hL.sub (.cons _ (.cons_cons _ (.cons_cons _ (.cons_cons _ (.cons _ (.cons _ .slnil))))))
          refine ⟨⟨hK, hE⟩, ?_⟩
          refine h_one 4 rfl rfl (by kernel_rfl) rfl (r_load_blk rfl Tryz.isAgg25 rfl (hL.get 4 rfl) rfl) ⟨hK, hE⟩ ?_
          have hE75 := hE.size
          refine h_new 7 rfl rfl (by kernel_rfl) rfl (r_append_own (ys := fcell (firstP g p, (Value.slice Aw (firstP g p).why.length cw))) 5 rfl Tryz.underlying25 info_fact rfl (by decide) rfl rfl hL hE rfl rfl (blk_raw (cs := #[.int .i64 p.1, .int .i64 p.2, (Value.slice Aw (firstP g p).why.length cw)]) (hL.get 0 rfl) rfl) (fun u hu => by simp [fcell] at hu; rcases hu with rfl | rfl | rfl <;> rfl) (by omega) (by omega) (fun b hb _ => .inr hb) (hXB hE).size) ?_
          rintro _ w ⟨hL, hE, hlv1, hlv2⟩
          obtain ⟨A1, c1, rfl⟩ := ownsRow_slice (hL.row 5 rfl)
          replace hL : Has w [.blk s59 (.cells #[.int .i64 p.1, .int .i64 p.2, (Value.slice Aw (firstP g p).why.length cw)] 43 (0, 0)), .row wB.heap.size 3 1 (Value.slice Aw (firstP g p).why.length cw) (firstP g p).why.length ((firstP g p).why.map (Value.int .i64)), .blk b9 (.cells #[.int .i64 p.1, .int .i64 p.2, (Value.slice Aw (firstP g p).why.length cw)] 43 (0, 0)), .blk b4 (.cells #[.int .i64 p.1, .int .i64 p.2] 32 (0, 0)), .blk xb (fxR Ag g.length cg (Value.slice Al fv.length cl)), .row wB.heap.size 43 3 (Value.slice A1 (fv.length + 1) c1) ((fv ++ [(firstP g p, (Value.slice Aw (firstP g p).why.length cw))])).length (((fv ++ [(firstP g p, (Value.slice Aw (firstP g p).why.length cw))])).map fcell).flatten] := by rw [← fcells_snoc, List.length_append]; exact hL
          have hK := hL.sub (.cons _ (.cons_cons _ (.cons_cons _ (.cons_cons _ (.cons _ (.cons _ .slnil))))))
          refine ⟨⟨hK, hE⟩, ?_⟩
          refine h_t 8 rfl rfl (by kernel_rfl) (fun _ _ _ h => h) ⟨hK, hE⟩ rfl (fun W hW => r_nilCheck rfl rfl) ?_
          refine h_t 9 rfl rfl (by kernel_rfl) (fun _ _ _ h => h) ⟨hK, hE⟩ rfl (fun W hW => r_fieldAddr (n := 0) rfl Tryz.underlying68 rfl Tryz.sizeOf25 rfl) ?_
          refine h_new_do 10 rfl rfl (by kernel_rfl) rfl (r_store 4 rfl Tryz.sizeOf25 rfl hL hE rfl rfl rfl rfl (fun _ => .inl rfl)) ?_
          rintro w ⟨hL, hE, hz, hk⟩
          have hK := hL.sub (.cons _ (.cons_cons _ (.cons_cons _ (.cons_cons _ (.cons _ (.cons _ .slnil))))))
          refine ⟨⟨hK, hE⟩, ?_⟩
          refine h_done (by kernel_rfl) ?_
          refine ⟨by repeat (first | exact Agree.over _ _ _ | exact Agree.refl _ _ | (refine Agree.puto ?_ _ _ rfl) | (refine Agree.put ?_ _ _ rfl) | (refine Agree.sub ?_ rfl)), ?_⟩
          exact ⟨A1, c1, fun b hb => (hlv2 b hb).imp id (Nat.le_trans hE75), hL.tail, hE⟩
      rintro e w hI
      obtain ⟨A1, c1, hlv1, hL, hE⟩ := hI
      refine c_seq ?_
   
      refine c_draw mixed (hL) hE ?_
      replace hL := hL.drew
      replace hE := hE.drew
      have hK := hL
      refine h_t 0 rfl rfl (by kernel_rfl) (fun _ _ _ h => h) ⟨hK, hE⟩ rfl (fun W hW => r_move rfl) ?_
      refine h_t 1 rfl rfl (by kernel_rfl) (fun _ _ _ h => h) ⟨hK, hE⟩ rfl (fun W hW => r_nilCheck rfl rfl) ?_
      refine h_t 2 rfl rfl (by kernel_rfl) (fun _ _ _ h => h) ⟨hK, hE⟩ rfl (fun W hW => r_fieldAddr (n := 0) rfl Tryz.underlying68 rfl Tryz.sizeOf22 rfl) ?_
      refine h_t 3 rfl rfl (by kernel_rfl) (fun _ _ _ h => h) ⟨hK, hE⟩ rfl (fun W hW => r_load_blk rfl Tryz.isAgg22 rfl (hW.1.get 3 rfl) rfl) ?_
      refine h_t 4 rfl rfl (by kernel_rfl) (fun _ _ _ h => h) ⟨hK, hE⟩ rfl (fun W hW => r_load_agg (vs := [.int .i64 p.1, .int .i64 p.2, (Value.slice Aw (firstP g p).why.length cw)]) rfl Tryz.isAgg43 Tryz.sizeOf43 rfl (blk_raw (cs := #[.int .i64 p.1, .int .i64 p.2, (Value.slice Aw (firstP g p).why.length cw)]) (hW.1.get 1 rfl) rfl)) ?_
      refine h_by 5 rfl rfl (by kernel_rfl) rfl (r_call rfl rfl Tryz.func58 rfl rfl) (next_rcalls _ Ag cg g (hg.keep RNode.kept (Ext0.cells (hXB hE))) hok (firstP g p) Aw cw (Sl.ints_at (hL.row 0 rfl)) hfnd.ok) ?_
      rintro _ w ⟨v9, rfl, hrow9, hX⟩
      obtain ⟨A9, c9, rfl⟩ := ownsRow_slice hrow9
      replace hL := hL.cons hX (r := .row wB.heap.size 32 2 (.slice A9 (byF g (firstP g p)).1.length c9) (byF g (firstP g p)).1.length ((byF g (firstP g p)).1.map cells2).flatten) (ownsRow_base hrow9 (hXB hE).size) (fun b hb => (ownsRow_lt hrow9 hb).2)
      replace hE := hE.step0 hX
      have hK := hL.sub (.cons _ (.cons_cons _ (.cons_cons _ (.cons_cons _ (.cons_cons _ (.cons_cons _ .slnil))))))
      refine ⟨_, rfl, ⟨hK, hE⟩, ?_⟩
      refine h_t 6 rfl rfl (by kernel_rfl) (fun _ _ _ h => h) ⟨hK, hE⟩ rfl (fun W hW => r_move rfl) ?_
      refine h_t 7 rfl rfl (by kernel_rfl) (fun _ _ _ h => h) ⟨hK, hE⟩ rfl (fun W hW => r_extract rfl rfl rfl) ?_
      refine h_t 8 rfl rfl (by kernel_rfl) (fun _ _ _ h => h) ⟨hK, hE⟩ rfl (fun W hW => r_extract rfl rfl rfl) ?_
      refine h_t 9 rfl rfl (by kernel_rfl) (fun _ _ _ h => h) ⟨hK, hE⟩ rfl (fun W hW => r_assign rfl) ?_
      refine h_t 10 rfl rfl (by kernel_rfl) (fun _ _ _ h => h) ⟨hK, hE⟩ rfl (fun W hW => r_assign rfl) ?_
      refine h_done (by kernel_rfl) ?_
      refine c_seq ?_
   
      refine c_ops ?_
      refine l_val rfl rfl rfl (r_fieldAddr (n := 0) rfl Tryz.underlying43 rfl Tryz.sizeOf26 rfl) ?_
      refine l_val rfl rfl rfl (r_load_blk rfl Tryz.isAgg26 rfl (hL.get 2 rfl) rfl) ?_
      refine l_val rfl rfl rfl (r_assign rfl) ?_
      refine l_nil ?_
      refine c_seq ?_
      refine c_seq ?_
   
      refine c_ops ?_
      refine l_val rfl rfl rfl (r_assign rfl) ?_
      refine l_nil ?_
      refine c_block ?_
   
      refine c_loop0 (fun m1 e w => (e 0 = .pointer (some ⟨xb, 0, none⟩) ∧ e 2 = .pointer (some ⟨pb, 0, none⟩) ∧ e 8 = .int .i64 (fv.length : Nat) ∧ e 9 = .pointer (some ⟨b9, 0, none⟩) ∧ e 10 = .slice A9 (onP g p).length c9) ∧ ∃ (n : Nat) (ws ys : List Int) (wv lv' : Value) (news : List FV), n ≤ (onP g p).length ∧ m1 = (onP g p).length - n ∧ e 13 = .int .i64 n ∧ e 12 = wv ∧ findsF (findF g k) ((onP g p).take n) (fv.map (·.1) ++ [firstP g p]) = (ws, ((fv ++ [(firstP g p, (Value.slice Aw (firstP g p).why.length cw))]) ++ news).map (·.1)) ∧ ys = (firstP g p).why ++ ws ∧ (∀ b, wv.ownBlock = some b → w0.heap.size ≤ b) ∧ (∀ x ∈ news, ∀ b, x.2.ownBlock = some b → w0.heap.size ≤ b) ∧ (∀ b, lv'.ownBlock = some b → (Value.slice Al fv.length cl).ownBlock = some b ∨ w0.heap.size ≤ b) ∧ Has w (.row wB.heap.size 32 2 (.slice A9 (onP g p).length c9) (onP g p).length ((onP g p).map cells2).flatten :: .row wB.heap.size 3 1 wv ys.length (ys.map (Value.int .i64)) :: .blk b9 (.cells #[.int .i64 p.1, .int .i64 p.2, (Value.slice Aw (firstP g p).why.length cw)] 43 (0, 0)) :: .blk b4 (.cells #[.int .i64 p.1, .int .i64 p.2] 32 (0, 0)) :: .blk xb (fxR Ag g.length cg lv') :: .row wB.heap.size 43 3 lv' ((fv ++ [(firstP g p, (Value.slice Aw (firstP g p).why.length cw))]) ++ news).length (((fv ++ [(firstP g p, (Value.slice Aw (firstP g p).why.length cw))]) ++ news).map fcell).flatten :: news.map (fres 3 wB.heap.size)) ∧ Ext (FSR xb (.slice Al fv.length cl)) w0 w) (onP g p).length ?_ ?_
      · exact ⟨⟨rfl, rfl, rfl, rfl, rfl⟩, 0, [], (firstP g p).why, _, _, [], Nat.zero_le _, rfl, rfl, rfl, by simp [findsF], by simp, hwv0, fun x hx => by simp at hx, hlv1, by rw [List.append_nil]; exact hL, hE⟩
      rintro m1 e w ⟨⟨hq0, hq2, hq8, hq9, hq10⟩, hI⟩
      refine c_know (t := 0) (by exact hq0) ?_
      refine c_know (t := 2) (by exact hq2) ?_
      refine c_know (t := 8) (by exact hq8) ?_
      refine c_know (t := 9) (by exact hq9) ?_
      refine c_know (t := 10) (by exact hq10) ?_
      clear hq0 hq2 hq8 hq9 hq10
      obtain ⟨n, ws, ys, wv, lv', news, hnl, hmn, h13, h12, hfn, hys, hwv, hnw, hlv', hL, hE⟩ := hI
      refine c_know (t := 13) (by exact h13) ?_
      refine c_know (t := 12) (by exact h12) ?_
      obtain ⟨news0, e0, hgo, hlen0, hat0, _, _⟩ := hall n
      refine c_seq ?_
      refine c_seq ?_
   
      refine c_ops ?_
      refine l_val rfl rfl rfl (r_move rfl) ?_
      refine l_val rfl rfl rfl (r_move rfl) ?_
      refine l_val rfl rfl rfl (r_len rfl Tryz.underlying23 rfl) ?_
      refine l_val rfl rfl rfl (r_lss rfl rfl rfl) ?_
      refine l_nil ?_
      refine c_cond rfl (fun hb => ?_) (fun hb => ?_)
      · have hr77 := hb
        replace hb := of_decide_eq_true hb
        replace hb : (n : Int) < ((onP g p).length : Int) := hb
        have hnn2 : n < (onP g p).length := by omega
        obtain ⟨q, hqd⟩ : ∃ q, q = (onP g p).getD (n : Int).toNat (0, 0) := ⟨_, rfl⟩
        have hqn : (onP g p)[n]? = some q := by rw [hqd]; exact pat_nat hnn2
        have hqi := hfnd.inn q (List.mem_of_getElem? hqn)
        rw [hfn] at hgo hlen0
        have hwl : ws.length = n := by rw [hlen0, List.length_take]; omega
        have hlenn : ((fv ++ [(firstP g p, (Value.slice Aw (firstP g p).why.length cw))]) ++ news).length = fv.length + 1 + news.length := by simp; omega
        have hgl : ((fv ++ [(firstP g p, (Value.slice Aw (firstP g p).why.length cw))]) ++ news).length ≤ g.length * g.length := by have := hgo.le; simpa using this
        have honm := (Sl.pairs_at (hL.row 0 rfl)).max
        have hyl : ys.length ≤ 1 + n := by rw [hys, List.length_append, hwl]; have := why_le g p; omega
        have honl := on_le hok hp hm
        refine c_skip ?_
        refine c_seq ?_
        refine c_block ?_
     
        refine c_ops ?_
        refine l_val rfl rfl rfl (r_move rfl) ?_
        refine l_val rfl rfl rfl (r_move rfl) ?_
        refine l_val rfl rfl rfl (r_move rfl) ?_
        refine l_val rfl rfl rfl (r_move rfl) ?_
        refine l_val rfl rfl rfl (r_indexAddr_sl rfl Tryz.underlying23 Tryz.sizeOf32 rfl (Sl.pairs_at (hL.row 0 rfl)).is rfl (by omega) hb) ?_
        refine l_val rfl rfl rfl (r_load_agg (vs := cells2 q) rfl Tryz.isAgg32 Tryz.sizeOf32 rfl (by rw [hqd]; exact (Sl.pairs_at (hL.row 0 rfl)).pair n (by omega) (by omega))) ?_
        refine l_val rfl rfl rfl (r_move rfl) ?_
        refine l_by rfl rfl rfl (r_call rfl rfl Tryz.func32 rfl rfl) (IH _ q ((fv ++ [(firstP g p, (Value.slice Aw (firstP g p).why.length cw))]) ++ news) lv' (hXB hE) (hL.sub (.cons _ (.cons _ (.cons _ (.cons _ (.cons_cons _ (.cons_cons _ (List.nil_sublist _))))))) ) hgo hqi.1 hqi.2 (by omega)) ?_
        rintro _ w ⟨hen, lv2, news2, hr2, hL2, hX, hnw2, hlv2'⟩
        have hX0 := hE.size
        obtain ⟨r1, hr1⟩ : ∃ r1, r1 = (findF g k q (((fv ++ [(firstP g p, (Value.slice Aw (firstP g p).why.length cw))]) ++ news).map (·.1))).1 := ⟨_, rfl⟩
        rw [← hr1] at hen
        subst hen
        replace hL : Has w (.row wB.heap.size 32 2 (.slice A9 (onP g p).length c9) (onP g p).length ((onP g p).map cells2).flatten :: .row wB.heap.size 3 1 wv ys.length (ys.map (Value.int .i64)) :: .blk b9 (.cells #[.int .i64 p.1, .int .i64 p.2, (Value.slice Aw (firstP g p).why.length cw)] 43 (0, 0)) :: .blk b4 (.cells #[.int .i64 p.1, .int .i64 p.2] 32 (0, 0)) :: .blk xb (fxR Ag g.length cg lv2) :: .row wB.heap.size 43 3 lv2 ((fv ++ [(firstP g p, (Value.slice Aw (firstP g p).why.length cw))]) ++ news ++ news2).length (((fv ++ [(firstP g p, (Value.slice Aw (firstP g p).why.length cw))]) ++ news ++ news2).map fcell).flatten :: (news.map (fres 3 wB.heap.size) ++ news2.map (fres 3 wB.heap.size))) := Has.callX (A := [_, _, _, _]) (X := FR xb wB.heap.size Ag g.length cg lv' ((fv ++ [(firstP g p, (Value.slice Aw (firstP g p).why.length cw))]) ++ news)) hL hX hL2 (fun b hb => FSR.res hb) (fr_foot hnw2 hlv2')
        replace hE := hE.step hX (fun b hlt hs => hs.elim .inl fun h => (hlv' b h).elim (fun h => .inr h) (fun h => absurd hlt (Nat.not_lt.2 h)))
        refine ⟨_, rfl, ?_⟩
        refine l_new rfl rfl rfl (n_slice (cells := #[.int .i64 r1]) rfl Tryz.underlying26 Tryz.sizeOf3 Tryz.zeroValue3 rfl rfl (fill_int1 _) hL hE) ?_
        rintro _ w ⟨s88, rfl, hs88, hL, hE, hX⟩
        have hE99 := hE.size
        refine l_new rfl rfl rfl (r_append_own (ys := [.int .i64 r1]) 2 rfl Tryz.underlying26 info_int rfl (by decide) rfl rfl hL hE rfl rfl (blk_raw (cs := #[.int .i64 r1]) (hL.get 0 rfl) rfl) (fun u hu => by rw [List.mem_singleton] at hu; rw [hu]; rfl) (by omega) (by omega) (fun b hb hlt => absurd hlt (Nat.not_lt.2 (hwv b hb))) (hXB hE).size) ?_
        rintro _ w ⟨hL, hE, hwv1, hwv2⟩
        obtain ⟨A4, c4, rfl⟩ := ownsRow_slice (hL.row 2 rfl)
        replace hL : Has w (.blk s88 (.cells #[.int .i64 r1] 3 (0, 0)) :: .row wB.heap.size 32 2 (.slice A9 (onP g p).length c9) (onP g p).length ((onP g p).map cells2).flatten :: .row wB.heap.size 3 1 (.slice A4 (ys.length + 1) c4) (ys ++ [r1]).length ((ys ++ [r1]).map (Value.int .i64)) :: .blk b9 (.cells #[.int .i64 p.1, .int .i64 p.2, (Value.slice Aw (firstP g p).why.length cw)] 43 (0, 0)) :: .blk b4 (.cells #[.int .i64 p.1, .int .i64 p.2] 32 (0, 0)) :: .blk xb (fxR Ag g.length cg lv2) :: .row wB.heap.size 43 3 lv2 ((fv ++ [(firstP g p, (Value.slice Aw (firstP g p).why.length cw))]) ++ (news ++ news2)).length (((fv ++ [(firstP g p, (Value.slice Aw (firstP g p).why.length cw))]) ++ (news ++ news2)).map fcell).flatten :: (news ++ news2).map (fres 3 wB.heap.size)) := by rw [← res_snoc, List.map_append (f := fres 3 wB.heap.size), ← List.append_assoc (fv ++ [(firstP g p, (Value.slice Aw (firstP g p).why.length cw))])]; exact hL
        refine l_val rfl rfl rfl (r_assign rfl) ?_
        refine l_nil ?_
     
        refine c_ops ?_
        refine l_val rfl rfl rfl (r_move rfl) ?_
        refine l_val rfl rfl rfl (r_add rfl rfl rfl) ?_
        refine l_val rfl rfl rfl (r_assign rfl) ?_
        refine l_nil ?_
        refine ⟨(onP g p).length - (n + 1), by omega, ⟨rfl, rfl, rfl, rfl, rfl⟩, n + 1, ws ++ [r1], ys ++ [r1], .slice A4 (ys.length + 1) c4, lv2, news ++ news2, by omega, rfl, by show Value.int .i64 (IntKind.i64.wrap ((n : Int) + 1)) = _; rw [wrap_succ hnn2 honm], rfl, ?_, by rw [hys, List.append_assoc], fun b hb => (hwv2 b hb).elim (hwv b) (Nat.le_trans hE99), fun x hx b hb => (List.mem_append.1 hx).elim (fun h => hnw x h b hb) (fun h => Nat.le_trans hX0 (hnw2 x h b hb)), fun b hb => (hlv2' b hb).elim (hlv' b) (fun h => .inr (Nat.le_trans hX0 h)), hL.tail, hE⟩
        rw [take_snoc hqn, findsF_snoc, hfn, hr1]
        exact Prod.ext rfl (hr2.trans (by rw [List.append_assoc]))
      · have hr77 := hb
        replace hb := of_decide_eq_false hb
        replace hb : ¬ (n : Int) < ((onP g p).length : Int) := hb
        obtain rfl : n = (onP g p).length := by omega
        rw [List.take_length] at hfn
        subst hys
        have h1wv := one_row (hL.row 1 rfl)
        obtain ⟨Awv, cwv, rfl⟩ := ownsRow_slice (hL.row 1 rfl)
        obtain ⟨gb, cap, rfl⟩ := row_pos (hL.row 5 rfl) (Nat.lt_of_le_of_lt (Nat.zero_le _) (fv_lt _ _ _))
        refine c_exit ?_
        refine c_seq ?_
     
        refine c_ops ?_
        refine l_val rfl rfl rfl (r_move rfl) ?_
        refine l_val rfl rfl rfl (r_fieldAddr (n := 0) rfl Tryz.underlying43 rfl Tryz.sizeOf26 rfl) ?_
        refine l_new_do rfl rfl (r_store 2 rfl Tryz.sizeOf26 rfl hL hE rfl rfl rfl rfl (fun h => absurd h (Nat.not_lt.2 hb9))) ?_
        rintro w ⟨hL, hE, hz, hk⟩
        refine l_nil ?_
        refine c_seq ?_
        refine c_seq ?_
     
        refine c_ops ?_
        refine l_val rfl rfl rfl (r_move rfl) ?_
        refine l_val rfl rfl rfl (r_move rfl) ?_
        refine l_val rfl rfl rfl (r_nilCheck rfl rfl) ?_
        refine l_val rfl rfl rfl (r_fieldAddr (n := 0) rfl Tryz.underlying68 rfl Tryz.sizeOf25 rfl) ?_
        refine l_val rfl rfl rfl (r_load_blk rfl Tryz.isAgg25 rfl (hL.get 4 rfl) rfl) ?_
        refine l_val rfl rfl rfl (r_len rfl Tryz.underlying25 rfl) ?_
        refine l_val rfl rfl rfl (r_lss rfl rfl rfl) ?_
        refine l_nil ?_
        refine c_cond rfl (fun hb => ?_) (fun hb => ?_)
        · have hr98 := hb
          replace hb := of_decide_eq_true hb
          refine c_seq ?_
       
          refine c_ops ?_
          refine l_val rfl rfl rfl (r_move rfl) ?_
          refine l_val rfl rfl rfl (r_nilCheck rfl rfl) ?_
          refine l_val rfl rfl rfl (r_fieldAddr (n := 0) rfl Tryz.underlying68 rfl Tryz.sizeOf25 rfl) ?_
          refine l_val rfl rfl rfl (r_load_blk rfl Tryz.isAgg25 rfl (hL.get 4 rfl) rfl) ?_
          refine l_val rfl rfl rfl (r_assign rfl) ?_
          refine l_nil ?_
       
          refine c_ops ?_
          refine l_val rfl rfl rfl (r_move rfl) ?_
          refine l_val rfl rfl rfl (r_move rfl) ?_
          refine l_val rfl rfl rfl (r_load_agg (vs := [.int .i64 p.1, .int .i64 p.2, (Value.slice Awv ((firstP g p).why ++ ws).length cwv)]) rfl Tryz.isAgg43 Tryz.sizeOf43 rfl (blk_raw (cs := #[.int .i64 p.1, .int .i64 p.2, (Value.slice Awv ((firstP g p).why ++ ws).length cwv)]) (hL.get 2 rfl) rfl)) ?_
          refine l_val rfl rfl rfl (r_indexAddr_row rfl Tryz.underlying25 Tryz.sizeOf43 rfl rfl (fv_lt _ _ _)) ?_
          refine l_new_do rfl rfl (r_setRow (vs := [.int .i64 p.1, .int .i64 p.2, (Value.slice Awv ((firstP g p).why ++ ws).length cwv)]) (k := fv.length) 5 rfl Tryz.sizeOf43 rfl rfl rfl (all3 h1wv) hL hE rfl (fv_lt _ _ _) (fun hlt => (hlv' _ rfl).elim (fun h => .inr h) (fun h => absurd hlt (Nat.not_lt.2 h)))) ?_
          rintro w ⟨hL, hE, hz, hk⟩
          refine l_nil ?_
          refine c_seq ?_
       
          refine c_ops ?_
          refine l_val rfl rfl rfl (r_move rfl) ?_
          refine l_val rfl rfl rfl (r_assign rfl) ?_
          refine l_nil ?_
          refine c_ret ?_
          have hset := fcells_set ((fv ++ [(firstP g p, (Value.slice Aw (firstP g p).why.length cw))]) ++ news) fv.length (doneP g p ws, (Value.slice Awv ((firstP g p).why ++ ws).length cwv)) (fv_lt _ _ _)
          rw [fv_set] at hset
          replace hL : Has w (.row wB.heap.size 32 2 (.slice A9 (onP g p).length c9) (onP g p).length ((onP g p).map cells2).flatten :: .row wB.heap.size 3 1 (Value.slice Awv ((firstP g p).why ++ ws).length cwv) ((firstP g p).why ++ ws).length (((firstP g p).why ++ ws).map (Value.int .i64)) :: .blk b9 (.cells #[.int .i64 p.1, .int .i64 p.2, (Value.slice Awv ((firstP g p).why ++ ws).length cwv)] 43 (0, 0)) :: .blk b4 (.cells #[.int .i64 p.1, .int .i64 p.2] 32 (0, 0)) :: .blk xb (fxR Ag g.length cg (.slice (some ⟨gb, 0, none⟩) ((fv ++ [(firstP g p, (Value.slice Aw (firstP g p).why.length cw))]) ++ news).length cap)) :: .row wB.heap.size 43 3 (.slice (some ⟨gb, 0, none⟩) ((fv ++ [(firstP g p, (Value.slice Aw (firstP g p).why.length cw))]) ++ news).length cap) (fv ++ (doneP g p ws, (Value.slice Awv ((firstP g p).why ++ ws).length cwv)) :: news).length ((fv ++ (doneP g p ws, (Value.slice Awv ((firstP g p).why ++ ws).length cwv)) :: news).map fcell).flatten :: news.map (fres 3 wB.heap.size)) := by rw [← hset, show (fv ++ (doneP g p ws, (Value.slice Awv ((firstP g p).why ++ ws).length cwv)) :: news).length = ((fv ++ [(firstP g p, (Value.slice Aw (firstP g p).why.length cw))]) ++ news).length from by simp]; exact hL
          refine ⟨rfl, _, (doneP g p ws, (Value.slice Awv ((firstP g p).why ++ ws).length cwv)) :: news, ?_, Has.perm ((List.perm_append_comm (l₁ := [_]) (l₂ := [_, _])).append_right _) (hL.sub (.cons _ (.cons_cons _ (.cons _ (.cons _ (.refl _)))))), hE, ?_, hlv'⟩
          · rw [hfn]; exact fv_set1 _ _ _ _ _ _
          · intro x hx b hb
            rcases List.mem_cons.1 hx with rfl | hx
            · exact hwv b hb
            · exact hnw x hx b hb
        · have hr98 := hb
          replace hb := of_decide_eq_false hb
          exact absurd (fv_lt fv news (firstP g p, (Value.slice Aw (firstP g p).why.length cw))) (by omega)
theorem find_rcalls (wB : World) (xb pb : Nat) (hxB : wB.heap.size ≤ xb) (Ag : Option Addr) (cg : Nat) (g : List GNode) (Ai : Option Addr) (ci : Nat) (hG : Grid wB pb Ag g.length cg false Ai ci (mayX g false)) (hg : Nodes wB Ag cg g) (hok : GraphOk g) (hn : g.length ≤ 16) : ∀ k, FindCR wB xb pb Ag cg g k
  | 0 => fun w0 p fv lv hB hL hgood hp hm hk => by
    have := hgood.le
    rw [List.length_map] at this
    omega
  | k + 1 => fun w0 p fv lv hB hL hgood hp hm hk => by
    cases ha : atP p 0 (fv.map (·.1)) with
    | some i => exact find_someR wB xb pb Ag cg g k w0 p fv lv i ha hL
    | none => exact find_noneR wB xb pb hxB Ag cg g Ai ci hG hg hok hn k (find_rcalls wB xb pb hxB Ag cg g Ai ci hG hg hok hn k) w0 p fv lv hB ha hL hgood hp hm hk
end Go.Proofs.YtndophlnapjkhaaGreatDoor.Vc
namespace Go.Proofs.YtndophlnapjkhaaGreatDoor.Vc
open Go Go.RowKit
set_option linter.unusedVariables false
set_option linter.unusedSimpArgs false
def qat (q : Int × Int) (k : Nat) : Int := if k = 0 then q.1 else q.2
theorem inB_of {g : List GNode} {q : Int × Int} (h1 : placeB g.length q.1 = true) (h2 : placeB g.length q.2 = true) : inB g q = true := by unfold inB; rw [h1, h2]; rfl
theorem inB_not {g : List GNode} {q : Int × Int} {k : Nat} (hk : k < 2) (h : ¬ (0 ≤ qat q k ∧ qat q k < g.length)) : inB g q = false := by
  unfold inB placeB qat at *
  match k, hk with
  | 0, _ =>
    have h' : ¬ (0 ≤ q.1 ∧ q.1 < g.length) := by simpa using h
    have : (decide (0 ≤ q.1) && decide (q.1 < (g.length : Int))) = false := by rw [← Bool.decide_and]; exact decide_eq_false h'
    rw [this]; rfl
  | 1, _ =>
    have h' : ¬ (0 ≤ q.2 ∧ q.2 < g.length) := by simpa using h
    have : (decide (0 ≤ q.2) && decide (q.2 < (g.length : Int))) = false := by rw [← Bool.decide_and]; exact decide_eq_false h'
    rw [this, Bool.and_false]
theorem place_qat {n : Nat} {q : Int × Int} {k : Nat} (h : 0 ≤ qat q k ∧ qat q k < n) : (k = 0 → placeB n q.1 = true) ∧ (k = 1 → placeB n q.2 = true) := by
  unfold qat placeB at *
  constructor
  · rintro rfl
    have h' : 0 ≤ q.1 ∧ q.1 < n := by simpa using h
    simp [h'.1, h'.2]
  · rintro rfl
    have h' : 0 ≤ q.2 ∧ q.2 < n := by simpa using h
    simp [h'.1, h'.2]
theorem built_fr (A : Option Addr) (n c : Nat) : Tryz.prog.built 68 [(0, .slice A n c)] = some #[.slice A n c, .slice none 0 0] := by kernel_rfl
set_option maxHeartbeats 8000000 in
theorem rFind_calls (w0 : World) (Ag : Option Addr) (cg : Nat) (g : List GNode) (hg : Nodes w0 Ag cg g) (hfit : Fits g) (hn : g.length ≤ 16) (Ap : Option Addr) (cp : Nat) (ps : FP) (hp : PairsAt w0 Ap cp ps) (hps : ps.length ≤ 1000000) :
    Calls Tryz.prog 8 [.slice Ag g.length cg, .slice Ap ps.length cp].toArray w0 (FindOut w0 g ps) := by
  have hE : Ext0 w0 w0 := Ext.refl _ _
  have hL : Has w0 [] := trivial
  have hnn : g.length * g.length ≤ 256 := Nat.le_trans (Nat.mul_le_mul hn hn) (by decide)
  have hpm := hp.max
  refine calls [4, 5, 6] Tryz.func8 rfl rfl rfl rfl ?_
  refine c_seq ?_
  refine c_ops ?_
  refine l_val rfl rfl rfl (r_assign rfl) ?_
  refine l_val rfl rfl rfl (r_assign rfl) ?_
  refine l_val rfl rfl rfl (r_assign rfl) ?_
  refine l_nil ?_
  refine c_seq ?_
  refine c_seq ?_
  refine c_ops ?_
  refine l_val rfl rfl rfl (r_move rfl) ?_
  refine l_by rfl rfl rfl (r_call rfl rfl Tryz.func30 rfl rfl) (rCheck_calls _ Ag cg g hg hfit (by omega)) ?_
  rintro _ w ⟨rfl, hX⟩
  replace hE := hE.trans hX
  refine ⟨_, rfl, ?_⟩
  refine l_val rfl rfl rfl (r_assign rfl) ?_
  refine l_nil ?_
  refine c_seq ?_
  refine c_ops ?_
  refine l_val rfl rfl rfl (r_move rfl) ?_
  refine l_val rfl rfl rfl (r_neq rfl rfl rfl) ?_
  refine l_nil ?_
  refine c_cond rfl (fun hb => ?_) (fun hb => ?_)
  · have hr18 := hb
    replace hb := of_decide_eq_false (by simpa using hb)
    have hck : ¬ checkG g = 0 := hb
    refine c_seq ?_
 
    refine c_ops ?_
    refine l_val rfl rfl rfl (r_move rfl) ?_
    refine l_val rfl rfl rfl (r_assign rfl) ?_
    refine l_val rfl rfl rfl (r_assign rfl) ?_
    refine l_val rfl rfl rfl (r_assign rfl) ?_
    refine l_nil ?_
    refine c_ret ?_
    exact FindOut.no hck (err_check hck) rfl hE
  · have hr18 := hb
    replace hb := of_decide_eq_true (by simpa using hb)
    have hck : checkG g = 0 := hb
    obtain ⟨hok, _⟩ := ok_of hfit hck
    refine c_skip ?_
    refine c_seq ?_
    refine c_seq ?_
 
    refine c_ops ?_
    refine l_val rfl rfl rfl (r_assign rfl) ?_
    refine l_nil ?_
    refine c_block ?_
 
    refine c_loop0 (fun m1 e w => (e 0 = .slice Ag g.length cg ∧ e 1 = .slice Ap ps.length cp) ∧ ∃ (n : Nat), n ≤ ps.length ∧ m1 = ps.length - n ∧ e 8 = .int .i64 (n : Nat) ∧ (ps.take n).all (inB g) = true ∧ Ext0 w0 w) (ps.length) ?_ ?_
    · exact ⟨⟨rfl, rfl⟩, 0, Nat.zero_le _, rfl, rfl, by simp, hE⟩
    rintro m1 e w ⟨⟨hq0, hq1⟩, hI⟩
    refine c_know (t := 0) (by exact hq0) ?_
    refine c_know (t := 1) (by exact hq1) ?_
    clear hq0 hq1
    obtain ⟨n, hnl, hnm, h8s, hin, hE⟩ := hI
    refine c_know (t := 8) (by exact h8s) ?_
    have hL : Has w [] := trivial
    refine c_seq ?_
    refine c_seq ?_
 
    refine c_ops ?_
    refine l_val rfl rfl rfl (r_move rfl) ?_
    refine l_val rfl rfl rfl (r_move rfl) ?_
    refine l_val rfl rfl rfl (r_len rfl Tryz.underlying23 rfl) ?_
    refine l_val rfl rfl rfl (r_lss rfl rfl rfl) ?_
    refine l_nil ?_
    refine c_cond rfl (fun hb => ?_) (fun hb => ?_)
    · have hr23 := hb
      replace hb := of_decide_eq_true hb
      have hnlt : n < ps.length := by omega
      obtain ⟨q, hqd⟩ : ∃ q, q = ps.getD (n : Int).toNat (0, 0) := ⟨_, rfl⟩
      have hqn : ps[n]? = some q := by rw [hqd]; exact pat_nat hnlt
      have hqc := hp.pair n (by omega) (by omega)
      rw [← hqd] at hqc
      refine c_skip ?_
      refine c_seq ?_
      refine c_block ?_
      refine c_seq ?_
   
      refine c_ops ?_
      refine l_val rfl rfl rfl (r_assign rfl) ?_
      refine l_nil ?_
      refine c_block ?_
   
      refine c_loop0 (fun m1 e w => (e 0 = .slice Ag g.length cg ∧ e 1 = .slice Ap ps.length cp ∧ e 8 = .int .i64 (n : Nat)) ∧ ∃ (k : Nat), k ≤ 2 ∧ m1 = 2 - k ∧ e 9 = .int .i64 (k : Nat) ∧ (0 < k → placeB g.length q.1 = true) ∧ (1 < k → placeB g.length q.2 = true) ∧ Ext0 w0 w) (2) ?_ ?_
      · exact ⟨⟨rfl, rfl, rfl⟩, 0, Nat.zero_le _, rfl, rfl, (fun h => absurd h (by decide)), (fun h => absurd h (by decide)), hE⟩
      rintro m1 e w ⟨⟨hq0, hq1, hq8⟩, hI⟩
      refine c_know (t := 0) (by exact hq0) ?_
      refine c_know (t := 1) (by exact hq1) ?_
      refine c_know (t := 8) (by exact hq8) ?_
      clear hq0 hq1 hq8
      obtain ⟨k, hkl, hkm, h9s, hk0, hk1, hE⟩ := hI
      refine c_know (t := 9) (by exact h9s) ?_
      have hL : Has w [] := trivial
      refine c_seq ?_
      refine c_seq ?_
   
      refine c_ops ?_
      refine l_val rfl rfl rfl (r_move rfl) ?_
      refine l_val rfl rfl rfl (r_lss rfl rfl rfl) ?_
      refine l_nil ?_
      refine c_cond rfl (fun hb => ?_) (fun hb => ?_)
      · have hr27 := hb
        replace hb := of_decide_eq_true hb
        have hklt : k < 2 := by omega
        have hqk : w0.cell? (((adr Ap).add ((n : Int).toNat * 2)).add ((k : Int).toNat * 1)) = some (.int .i64 (qat q k)) := by match k, hklt with | 0, _ => exact hqc 0 _ rfl | 1, _ => exact hqc 1 _ rfl
        refine c_skip ?_
        refine c_seq ?_
        refine c_block ?_
        refine c_seq ?_
     
        refine c_ops ?_
        refine l_val rfl rfl rfl (r_move rfl) ?_
        refine l_val rfl rfl rfl (r_move rfl) ?_
        refine l_val rfl rfl rfl (r_move rfl) ?_
        refine l_val rfl rfl rfl (r_indexAddr_sl rfl Tryz.underlying23 Tryz.sizeOf32 rfl hp.is rfl (by omega) (by omega)) ?_
        refine l_val rfl rfl rfl (r_indexAddr_arr rfl Tryz.underlying32 Tryz.sizeOf3 rfl rfl (by omega) (by omega)) ?_
        refine l_val rfl rfl rfl (r_load (v := .int .i64 (qat q k)) rfl Tryz.isAgg3 rfl (Ext0.cells hE _ _ hqk)) ?_
        refine l_val rfl rfl rfl (r_lss rfl rfl rfl) ?_
        refine l_val rfl rfl rfl (r_move rfl) ?_
        refine l_case 37 rfl (fun hb => ?_) (fun hb => ?_)
        · have hr37 := hb
          replace hb := of_decide_eq_true hb
          have hbad : inB g q = false := inB_not hklt (by omega)
          refine l_not rfl rfl rfl ?_
          refine l_not rfl rfl rfl ?_
          refine l_not rfl rfl rfl ?_
          refine l_not rfl rfl rfl ?_
          refine l_not rfl rfl rfl ?_
          refine l_not rfl rfl rfl ?_
          refine l_not rfl rfl rfl ?_
          refine l_not rfl rfl rfl ?_
          refine l_not rfl rfl rfl ?_
          refine l_val rfl rfl rfl (r_pick rfl rfl) ?_
          refine l_nil ?_
          refine c_yes rfl ?_
          refine c_seq ?_
       
          refine c_ops ?_
          refine l_val rfl rfl rfl (r_assign rfl) ?_
          refine l_val rfl rfl rfl (r_assign rfl) ?_
          refine l_val rfl rfl rfl (r_assign rfl) ?_
          refine l_nil ?_
          refine c_ret ?_
          exact FindOut.no (by decide) (err_in hck (all_bad hqn hbad)) rfl hE
        · have hr37 := hb
          replace hb := of_decide_eq_false hb
          refine l_val rfl rfl rfl (r_move rfl) ?_
          refine l_val rfl rfl rfl (r_move rfl) ?_
          refine l_val rfl rfl rfl (r_move rfl) ?_
          refine l_val rfl rfl rfl (r_indexAddr_sl rfl Tryz.underlying23 Tryz.sizeOf32 rfl hp.is rfl (by omega) (by omega)) ?_
          refine l_val rfl rfl rfl (r_indexAddr_arr rfl Tryz.underlying32 Tryz.sizeOf3 rfl rfl (by omega) (by omega)) ?_
          refine l_val rfl rfl rfl (r_load (v := .int .i64 (qat q k)) rfl Tryz.isAgg3 rfl (Ext0.cells hE _ _ hqk)) ?_
          refine l_val rfl rfl rfl (r_move rfl) ?_
          refine l_val rfl rfl rfl (r_len rfl Tryz.underlying22 rfl) ?_
          refine l_val rfl rfl rfl (r_geq rfl rfl rfl) ?_
          refine l_val rfl rfl rfl (r_pick rfl rfl) ?_
          refine l_nil ?_
          refine c_cond rfl (fun hb => ?_) (fun hb => ?_)
          · have hr47 := hb
            replace hb := of_decide_eq_true hb
            have hbad : inB g q = false := inB_not hklt (by omega)
            refine c_seq ?_
         
            refine c_ops ?_
            refine l_val rfl rfl rfl (r_assign rfl) ?_
            refine l_val rfl rfl rfl (r_assign rfl) ?_
            refine l_val rfl rfl rfl (r_assign rfl) ?_
            refine l_nil ?_
            refine c_ret ?_
            exact FindOut.no (by decide) (err_in hck (all_bad hqn hbad)) rfl hE
          · have hr47 := hb
            replace hb := of_decide_eq_false hb
            have hpq := place_qat (n := g.length) (q := q) (k := k) (by have := of_decide_eq_false hr37; omega)
            have hk0' : 0 < k + 1 → placeB g.length q.1 = true := fun _ => by rcases Nat.eq_zero_or_pos k with h | h <;> first | exact hpq.1 h | exact hk0 h
            have hk1' : 1 < k + 1 → placeB g.length q.2 = true := fun h => hpq.2 (by omega)
            refine c_skip ?_
         
            refine c_ops ?_
            refine l_val rfl rfl rfl (r_move rfl) ?_
            refine l_val rfl rfl rfl (r_add rfl rfl rfl) ?_
            refine l_val rfl rfl rfl (r_assign rfl) ?_
            refine l_nil ?_
            exact ⟨2 - (k + 1), by omega, ⟨rfl, rfl, rfl⟩, k + 1, by omega, rfl, by show Value.int .i64 (IntKind.i64.wrap ((k : Int) + 1)) = _; rw [wrap_succ hklt (by decide : 2 ≤ 9223372036854775807)], hk0', hk1', hE⟩
      · have hr27 := hb
        replace hb := of_decide_eq_false hb
        have hin2 := all_more hqn (inB_of (hk0 (by omega)) (hk1 (by omega))) hin
        refine c_exit ?_
     
        refine c_ops ?_
        refine l_val rfl rfl rfl (r_move rfl) ?_
        refine l_val rfl rfl rfl (r_add rfl rfl rfl) ?_
        refine l_val rfl rfl rfl (r_assign rfl) ?_
        refine l_nil ?_
        exact ⟨ps.length - (n + 1), by omega, ⟨rfl, rfl⟩, n + 1, by omega, rfl, by show Value.int .i64 (IntKind.i64.wrap ((n : Int) + 1)) = _; rw [wrap_succ hnlt hpm], hin2, hE⟩
    · have hr23 := hb
      replace hb := of_decide_eq_false hb
      obtain rfl : n = ps.length := by omega
      rw [List.take_length] at hin
      refine c_exit ?_
      refine c_seq ?_
   
      refine c_ops ?_
      refine l_val rfl rfl rfl (r_move rfl) ?_
      refine l_by rfl rfl rfl (r_call rfl rfl Tryz.func31 rfl rfl) (Of_rcalls _ Ag cg g (hg.keep RNode.kept (Ext0.cells hE)) hok (by omega) false) ?_
      rintro _ w ⟨pb, Ai, ci, rfl, hG, hX⟩
      replace hE := hE.trans hX
      replace hg := hg.keep RNode.kept (Ext0.cells hE)
      replace hp := hp.keep RPair.kept (Ext0.cells hE)
      obtain ⟨wB, hwB⟩ : ∃ x, x = w := ⟨_, rfl⟩
      rw [← hwB] at hG hg hp hE
      have hE0 : Ext0 w0 wB := hE
      replace hE : Ext0 wB w := hwB ▸ Ext.refl _ _
      have hL : Has w [] := trivial
      refine ⟨_, rfl, ?_⟩
      refine l_val rfl rfl rfl (r_assign rfl) ?_
      refine l_nil ?_
      refine c_seq ?_
      refine c_seq ?_
   
      refine c_ops ?_
      refine l_val rfl rfl rfl (r_assign rfl) ?_
      refine l_nil ?_
      refine c_block ?_
   
      refine c_loop0 (fun m1 e w => (e 0 = .slice Ag g.length cg ∧ e 1 = .slice Ap ps.length cp ∧ e 10 = .pointer (some ⟨pb, 0, none⟩)) ∧ ∃ (n : Nat), n ≤ ps.length ∧ m1 = ps.length - n ∧ e 11 = .int .i64 (n : Nat) ∧ (ps.take n).all (mayX g false) = true ∧ Ext0 wB w) (ps.length) ?_ ?_
      · exact ⟨⟨rfl, rfl, rfl⟩, 0, Nat.zero_le _, rfl, rfl, by simp, hE⟩
      rintro m1 e w ⟨⟨hq0, hq1, hq10⟩, hI⟩
      refine c_know (t := 0) (by exact hq0) ?_
      refine c_know (t := 1) (by exact hq1) ?_
      refine c_know (t := 10) (by exact hq10) ?_
      clear hq0 hq1 hq10
      obtain ⟨n, hnl, hnm, h11s, hma, hE⟩ := hI
      refine c_know (t := 11) (by exact h11s) ?_
      have hL : Has w [] := trivial
      refine c_seq ?_
      refine c_seq ?_
   
      refine c_ops ?_
      refine l_val rfl rfl rfl (r_move rfl) ?_
      refine l_val rfl rfl rfl (r_move rfl) ?_
      refine l_val rfl rfl rfl (r_len rfl Tryz.underlying23 rfl) ?_
      refine l_val rfl rfl rfl (r_lss rfl rfl rfl) ?_
      refine l_nil ?_
      refine c_cond rfl (fun hb => ?_) (fun hb => ?_)
      · have hr53 := hb
        replace hb := of_decide_eq_true hb
        have hnlt : n < ps.length := by omega
        obtain ⟨q, hqd⟩ : ∃ q, q = ps.getD (n : Int).toNat (0, 0) := ⟨_, rfl⟩
        have hqn : ps[n]? = some q := by rw [hqd]; exact pat_nat hnlt
        have hqc := hp.pair n (by omega) (by omega)
        rw [← hqd] at hqc
        have hqi : InG g.length q := inB_in (all_at hin (List.mem_of_getElem? hqn))
        obtain ⟨Ar, cr, hr0, hr1, hr2⟩ := hG.row q.1 hqi.1 hqi.2.1
        refine c_skip ?_
        refine c_seq ?_
        refine c_block ?_
        refine c_seq ?_
     
        refine c_draw mixed (hL) hE ?_
        replace hL := hL.drew
        replace hE := hE.drew
        have hK := hL
        refine h_t 0 rfl rfl (by kernel_rfl) (fun _ _ _ h => h) ⟨hK, hE⟩ rfl (fun W hW => r_move rfl) ?_
        refine h_listed (listed' := #[T',F',F',F',F',F',F',F',F',F',F',F',F',F',F',F',F',F',F']) (by kernel_rfl) ?_
        refine h_t 1 rfl rfl (by kernel_rfl) (fun _ _ _ h => h) ⟨hK, hE⟩ rfl (fun W hW => r_nilCheck rfl rfl) ?_
        refine h_listed (listed' := #[T',T',F',F',F',F',F',F',F',F',F',F',F',F',F',F',F',F',F']) (by kernel_rfl) ?_
        refine h_t 2 rfl rfl (by kernel_rfl) (fun _ _ _ h => h) ⟨hK, hE⟩ rfl (fun W hW => r_fieldAddr (n := 0) rfl Tryz.underlying65 rfl Tryz.sizeOf63 rfl) ?_
        refine h_listed (listed' := #[T',T',T',F',F',F',F',F',F',F',F',F',F',F',F',F',F',F',F']) (by kernel_rfl) ?_
        refine h_t 3 rfl rfl (by kernel_rfl) (fun _ _ _ h => h) ⟨hK, hE⟩ rfl (fun W hW => r_load rfl Tryz.isAgg63 rfl (Ext0.cells hW.2 _ _ hG.c2)) ?_
        refine h_listed (listed' := #[T',T',T',T',F',F',F',F',F',F',F',F',F',F',F',F',F',F',F']) (by kernel_rfl) ?_
        refine h_t 4 rfl rfl (by kernel_rfl) (fun _ _ _ h => h) ⟨hK, hE⟩ rfl (fun W hW => r_move rfl) ?_
        refine h_listed (listed' := #[T',T',T',T',T',F',F',F',F',F',F',F',F',F',F',F',F',F',F']) (by kernel_rfl) ?_
        refine h_t 5 rfl rfl (by kernel_rfl) (fun _ _ _ h => h) ⟨hK, hE⟩ rfl (fun W hW => r_move rfl) ?_
        refine h_listed (listed' := #[T',T',T',T',T',T',F',F',F',F',F',F',F',F',F',F',F',F',F']) (by kernel_rfl) ?_
        refine h_t 6 rfl rfl (by kernel_rfl) (fun _ _ _ h => h) ⟨hK, hE⟩ rfl (fun W hW => r_indexAddr_sl rfl Tryz.underlying23 Tryz.sizeOf32 rfl hp.is rfl (by omega) (by omega)) ?_
        refine h_listed (listed' := #[T',T',T',T',T',T',T',F',F',F',F',F',F',F',F',F',F',F',F']) (by kernel_rfl) ?_
        refine h_t 7 rfl rfl (by kernel_rfl) (fun _ _ _ h => h) ⟨hK, hE⟩ rfl (fun W hW => r_indexAddr_arr rfl Tryz.underlying32 Tryz.sizeOf3 rfl rfl (by decide) (by decide)) ?_
        refine h_listed (listed' := #[T',T',T',T',T',T',T',T',F',F',F',F',F',F',F',F',F',F',F']) (by kernel_rfl) ?_
        refine h_t 8 rfl rfl (by kernel_rfl) (fun _ _ _ h => h) ⟨hK, hE⟩ rfl (fun W hW => r_load (v := .int .i64 q.1) rfl Tryz.isAgg3 rfl (Ext0.cells hW.2 _ _ (hqc 0 _ rfl))) ?_
        refine h_listed (listed' := #[T',T',T',T',T',T',T',T',T',F',F',F',F',F',F',F',F',F',F']) (by kernel_rfl) ?_
        refine h_t 9 rfl rfl (by kernel_rfl) (fun _ _ _ h => h) ⟨hK, hE⟩ rfl (fun W hW => r_indexAddr_sl rfl Tryz.underlying63 Tryz.sizeOf62 rfl hG.is rfl hqi.1 hqi.2.1) ?_
        refine h_listed (listed' := #[T',T',T',T',T',T',T',T',T',T',F',F',F',F',F',F',F',F',F']) (by kernel_rfl) ?_
        refine h_t 10 rfl rfl (by kernel_rfl) (fun _ _ _ h => h) ⟨hK, hE⟩ rfl (fun W hW => r_load (v := .slice Ar g.length cr) rfl Tryz.isAgg62 rfl (Ext0.cells hW.2 _ _ hr0)) ?_
        refine h_listed (listed' := #[T',T',T',T',T',T',T',T',T',T',T',F',F',F',F',F',F',F',F']) (by kernel_rfl) ?_
        refine h_t 11 rfl rfl (by kernel_rfl) (fun _ _ _ h => h) ⟨hK, hE⟩ rfl (fun W hW => r_move rfl) ?_
        refine h_listed (listed' := #[T',T',T',T',T',T',T',T',T',T',T',T',F',F',F',F',F',F',F']) (by kernel_rfl) ?_
        refine h_t 12 rfl rfl (by kernel_rfl) (fun _ _ _ h => h) ⟨hK, hE⟩ rfl (fun W hW => r_move rfl) ?_
        refine h_listed (listed' := #[T',T',T',T',T',T',T',T',T',T',T',T',T',F',F',F',F',F',F']) (by kernel_rfl) ?_
        refine h_t 13 rfl rfl (by kernel_rfl) (fun _ _ _ h => h) ⟨hK, hE⟩ rfl (fun W hW => r_indexAddr_sl rfl Tryz.underlying23 Tryz.sizeOf32 rfl hp.is rfl (by omega) (by omega)) ?_
        refine h_listed (listed' := #[T',T',T',T',T',T',T',T',T',T',T',T',T',T',F',F',F',F',F']) (by kernel_rfl) ?_
        refine h_t 14 rfl rfl (by kernel_rfl) (fun _ _ _ h => h) ⟨hK, hE⟩ rfl (fun W hW => r_indexAddr_arr rfl Tryz.underlying32 Tryz.sizeOf3 rfl rfl (by decide) (by decide)) ?_
        refine h_listed (listed' := #[T',T',T',T',T',T',T',T',T',T',T',T',T',T',T',F',F',F',F']) (by kernel_rfl) ?_
        refine h_t 15 rfl rfl (by kernel_rfl) (fun _ _ _ h => h) ⟨hK, hE⟩ rfl (fun W hW => r_load (v := .int .i64 q.2) rfl Tryz.isAgg3 rfl (Ext0.cells hW.2 _ _ (hqc 1 _ rfl))) ?_
        refine h_listed (listed' := #[T',T',T',T',T',T',T',T',T',T',T',T',T',T',T',T',F',F',F']) (by kernel_rfl) ?_
        refine h_t 16 rfl rfl (by kernel_rfl) (fun _ _ _ h => h) ⟨hK, hE⟩ rfl (fun W hW => r_indexAddr_sl rfl Tryz.underlying62 Tryz.sizeOf4 rfl hr1 rfl hqi.2.2.1 hqi.2.2.2) ?_
        refine h_listed (listed' := #[T',T',T',T',T',T',T',T',T',T',T',T',T',T',T',T',T',F',F']) (by kernel_rfl) ?_
        refine h_t 17 rfl rfl (by kernel_rfl) (fun _ _ _ h => h) ⟨hK, hE⟩ rfl (fun W hW => r_load (v := .bool (mayX g false q)) rfl Tryz.isAgg4 rfl (Ext0.cells hW.2 _ _ (hr2 q.2 hqi.2.2.1 hqi.2.2.2))) ?_
        refine h_listed (listed' := #[T',T',T',T',T',T',T',T',T',T',T',T',T',T',T',T',T',T',F']) (by kernel_rfl) ?_
        refine h_t 18 rfl rfl (by kernel_rfl) (fun _ _ _ h => h) ⟨hK, hE⟩ rfl (fun W hW => r_not rfl rfl) ?_
        refine h_listed (listed' := #[T',T',T',T',T',T',T',T',T',T',T',T',T',T',T',T',T',T',T']) (by kernel_rfl) ?_
        refine h_done (by kernel_rfl) ?_
        refine c_cond rfl (fun hb => ?_) (fun hb => ?_)
        · have hr74 := hb
          have hbad : mayX g false q = false := by simpa using hb
          refine c_seq ?_
       
          refine c_ops ?_
          refine l_val rfl rfl rfl (r_assign rfl) ?_
          refine l_val rfl rfl rfl (r_assign rfl) ?_
          refine l_val rfl rfl rfl (r_assign rfl) ?_
          refine l_nil ?_
          refine c_ret ?_
          exact FindOut.no (by decide) (err_may hck hin (all_bad hqn hbad)) rfl (hE0.trans hE)
        · have hr74 := hb
          have hgoodq : mayX g false q = true := by simpa using hb
          have hma2 := all_more hqn hgoodq hma
          refine c_skip ?_
       
          refine c_ops ?_
          refine l_val rfl rfl rfl (r_move rfl) ?_
          refine l_val rfl rfl rfl (r_add rfl rfl rfl) ?_
          refine l_val rfl rfl rfl (r_assign rfl) ?_
          refine l_nil ?_
          exact ⟨ps.length - (n + 1), by omega, ⟨rfl, rfl, rfl⟩, n + 1, by omega, rfl, by show Value.int .i64 (IntKind.i64.wrap ((n : Int) + 1)) = _; rw [wrap_succ hnlt hpm], hma2, hE⟩
      · have hr53 := hb
        replace hb := of_decide_eq_false hb
        obtain rfl : n = ps.length := by omega
        rw [List.take_length] at hma
        refine c_exit ?_
        refine c_seq ?_
     
        refine c_ops ?_
        refine l_val rfl rfl rfl (r_move rfl) ?_
        refine l_val rfl rfl rfl (r_build rfl rfl (built_fr _ _ _)) ?_
        refine l_new rfl rfl rfl (n_box rfl hL hE) ?_
        rintro _ w ⟨b77, rfl, hb77, hL, hE, hX⟩
        refine l_val rfl rfl rfl (r_assign rfl) ?_
        refine l_nil ?_
        refine c_seq ?_
     
        refine c_ops ?_
        refine l_val rfl rfl rfl (r_assign rfl) ?_
        refine l_nil ?_
        refine c_seq ?_
        refine c_seq ?_
     
        refine c_ops ?_
        refine l_val rfl rfl rfl (r_assign rfl) ?_
        refine l_nil ?_
        refine c_block ?_
     
        refine c_loop0 (fun m1 e w => (e 0 = .slice Ag g.length cg ∧ e 1 = .slice Ap ps.length cp ∧ e 10 = .pointer (some ⟨pb, 0, none⟩) ∧ e 12 = .pointer (some ⟨b77, 0, none⟩)) ∧ ∃ (n : Nat) (ws : List Int) (av lv : Value) (fv : List FV), n ≤ ps.length ∧ m1 = ps.length - n ∧ e 14 = .int .i64 (n : Nat) ∧ e 13 = av ∧ findsF (findF g (g.length * g.length + 1)) (ps.take n) [] = (ws, fv.map (·.1)) ∧ Has w (.row wB.heap.size 3 1 av (ws).length ((ws).map (Value.int .i64)) :: .blk b77 (fxR Ag g.length cg lv) :: .row wB.heap.size 43 3 lv (fv).length ((fv).map fcell).flatten :: (fv).map (fres 3 wB.heap.size)) ∧ Ext0 wB w) ps.length ?_ ?_
        · exact ⟨⟨rfl, rfl, rfl, rfl⟩, 0, [], .slice none 0 0, .slice none 0 0, [], Nat.zero_le _, rfl, rfl, rfl, rfl, Has.nilRow (Has.perm (List.Perm.swap _ _ _) (hL.nilRow wB.heap.size 43 3)) _ _ _, hE⟩
        rintro m1 e w ⟨⟨hq0, hq1, hq10, hq12⟩, hI⟩
        refine c_know (t := 0) (by exact hq0) ?_
        refine c_know (t := 1) (by exact hq1) ?_
        refine c_know (t := 10) (by exact hq10) ?_
        refine c_know (t := 12) (by exact hq12) ?_
        clear hq0 hq1 hq10 hq12
        obtain ⟨n, ws, av, lv, fv, hnl, hmn, h14, h13, hfn, hL, hE⟩ := hI
        refine c_know (t := 14) (by exact h14) ?_
        refine c_know (t := 13) (by exact h13) ?_
        obtain ⟨news0, e0, hgo, hlen0, _⟩ := (all_is (F := findF g (g.length * g.length + 1)) (N := 0) (ps.take n) [] (fun q hq l' hl' hgl => one_is hok _ q l' hgl (inB_in (all_at hin (List.mem_of_mem_take hq))) (all_at hma (List.mem_of_mem_take hq)) (by omega)) (Nat.zero_le _) .nil).out
        refine c_seq ?_
        refine c_seq ?_
     
        refine c_ops ?_
        refine l_val rfl rfl rfl (r_move rfl) ?_
        refine l_val rfl rfl rfl (r_move rfl) ?_
        refine l_val rfl rfl rfl (r_len rfl Tryz.underlying23 rfl) ?_
        refine l_val rfl rfl rfl (r_lss rfl rfl rfl) ?_
        refine l_nil ?_
        refine c_cond rfl (fun hb => ?_) (fun hb => ?_)
        · have hr81 := hb
          replace hb := of_decide_eq_true hb
          have hnlt : n < ps.length := by omega
          obtain ⟨q, hqd⟩ : ∃ q, q = ps.getD (n : Int).toNat (0, 0) := ⟨_, rfl⟩
          have hqn : ps[n]? = some q := by rw [hqd]; exact pat_nat hnlt
          have hqc := hp.pair n (by omega) (by omega)
          rw [← hqd] at hqc
          have hqm := all_at hma (List.mem_of_getElem? hqn)
          have hqi := inB_in (all_at hin (List.mem_of_getElem? hqn))
          rw [hfn] at hgo hlen0
          have hwl : ws.length = n := by rw [hlen0, List.length_take]; omega
          refine c_skip ?_
          refine c_seq ?_
          refine c_block ?_
       
          refine c_ops ?_
          refine l_val rfl rfl rfl (r_move rfl) ?_
          refine l_val rfl rfl rfl (r_move rfl) ?_
          refine l_val rfl rfl rfl (r_move rfl) ?_
          refine l_val rfl rfl rfl (r_move rfl) ?_
          refine l_val rfl rfl rfl (r_indexAddr_sl rfl Tryz.underlying23 Tryz.sizeOf32 rfl hp.is rfl (by omega) (by omega)) ?_
          refine l_val rfl rfl rfl (r_load_agg (vs := cells2 q) rfl Tryz.isAgg32 Tryz.sizeOf32 rfl (fun j v hj => Ext0.cells hE _ _ (hqc j v hj))) ?_
          refine l_val rfl rfl rfl (r_move rfl) ?_
          refine l_by rfl rfl rfl (r_call rfl rfl Tryz.func32 rfl rfl) (find_rcalls wB b77 pb hb77 Ag cg g Ai ci hG hg hok hn (g.length * g.length + 1) _ q fv lv hE (hL.sub (.cons _ (.cons_cons _ (.cons_cons _ (List.nil_sublist _))))) hgo hqi hqm (by omega)) ?_
          rintro _ w ⟨hen, lv2, news, hr2, hL2, hX, hnw2, hlv2⟩
          have hlvb : ∀ b, lv.ownBlock = some b → wB.heap.size ≤ b := fun b hb => (ownsRow_lt (hL.row 2 rfl) hb).2
          obtain ⟨r1, hr1⟩ : ∃ r1, r1 = (findF g (g.length * g.length + 1) q (fv.map (·.1))).1 := ⟨_, rfl⟩
          rw [← hr1] at hen
          subst hen
          replace hL : Has w (.row wB.heap.size 3 1 av (ws).length ((ws).map (Value.int .i64)) :: .blk b77 (fxR Ag g.length cg lv2) :: .row wB.heap.size 43 3 lv2 (fv ++ news).length ((fv ++ news).map fcell).flatten :: ((fv).map (fres 3 wB.heap.size) ++ (news).map (fres 3 wB.heap.size))) := Has.callX (A := [_]) (X := FR b77 wB.heap.size Ag g.length cg lv fv) hL hX hL2 (fun b hb => FSR.res hb) (fr_foot hnw2 hlv2)
          replace hE := hE.step hX (fun b hlt hs => hs.elim (fun h => absurd hlt (Nat.not_lt.2 (h ▸ hb77))) fun h => absurd hlt (Nat.not_lt.2 (hlvb b h)))
          refine ⟨_, rfl, ?_⟩
          refine l_new rfl rfl rfl (n_slice (cells := #[.int .i64 r1]) rfl Tryz.underlying26 Tryz.sizeOf3 Tryz.zeroValue3 rfl rfl (fill_int1 _) hL hE) ?_
          rintro _ w ⟨s92, rfl, hs92, hL, hE, hX⟩
          refine l_new rfl rfl rfl (r_append (ys := [.int .i64 r1]) 1 rfl Tryz.underlying26 info_int rfl (by decide) rfl rfl hL hE rfl rfl (blk_raw (cs := #[.int .i64 r1]) (hL.get 0 rfl) rfl) (fun u hu => by rw [List.mem_singleton] at hu; rw [hu]; rfl) (by omega) (by omega) (Nat.le_refl _) hE.size) ?_
          rintro _ w ⟨hL, hE, hk⟩
          obtain ⟨A4, c4, rfl⟩ := ownsRow_slice (hL.row 1 rfl)
          replace hL : Has w (.blk s92 (.cells #[.int .i64 r1] 3 (0, 0)) :: .row wB.heap.size 3 1 (.slice A4 (ws.length + 1) c4) (ws ++ [r1]).length ((ws ++ [r1]).map (Value.int .i64)) :: .blk b77 (fxR Ag g.length cg lv2) :: .row wB.heap.size 43 3 lv2 (fv ++ news).length ((fv ++ news).map fcell).flatten :: (fv ++ news).map (fres 3 wB.heap.size)) := by rw [← res_snoc, List.map_append (f := fres 3 wB.heap.size)]; exact hL
          refine l_val rfl rfl rfl (r_assign rfl) ?_
          refine l_nil ?_
       
          refine c_ops ?_
          refine l_val rfl rfl rfl (r_move rfl) ?_
          refine l_val rfl rfl rfl (r_add rfl rfl rfl) ?_
          refine l_val rfl rfl rfl (r_assign rfl) ?_
          refine l_nil ?_
          refine ⟨ps.length - (n + 1), by omega, ⟨rfl, rfl, rfl, rfl⟩, n + 1, ws ++ [r1], _, lv2, fv ++ news, by omega, rfl, by show Value.int .i64 (IntKind.i64.wrap ((n : Int) + 1)) = _; rw [wrap_succ hnlt hpm], rfl, ?_, hL.tail, hE⟩
          rw [take_snoc hqn, findsF_snoc, hfn, hr1]
          exact Prod.ext rfl hr2
        · have hr81 := hb
          replace hb := of_decide_eq_false hb
          obtain rfl : n = ps.length := by omega
          rw [List.take_length] at hfn hgo
          rw [hfn] at hgo
          have hfl := hgo.le
          rw [List.length_map] at hfl
          obtain ⟨Al, cl, rfl⟩ := ownsRow_slice (hL.row 2 rfl)
          obtain ⟨Aw, cw, rfl⟩ := ownsRow_slice (hL.row 0 rfl)
          refine c_exit ?_
          refine c_seq ?_
          refine c_seq ?_
       
          refine c_ops ?_
          refine l_val rfl rfl rfl (r_move rfl) ?_
          refine l_val rfl rfl rfl (r_nilCheck rfl rfl) ?_
          refine l_val rfl rfl rfl (r_fieldAddr (n := 0) rfl Tryz.underlying68 rfl Tryz.sizeOf25 rfl) ?_
          refine l_val rfl rfl rfl (r_load_blk rfl Tryz.isAgg25 rfl (hL.get 1 rfl) rfl) ?_
          refine l_val rfl rfl rfl (r_len rfl Tryz.underlying25 rfl) ?_
          refine l_val rfl rfl rfl (r_gtr rfl rfl rfl) ?_
          refine l_nil ?_
          refine c_cond rfl (fun hb => ?_) (fun hb => ?_)
          · have hr99 := hb
            replace hb := of_decide_eq_true hb
            omega
          · have hr99 := hb
            replace hb := of_decide_eq_false hb
            refine c_skip ?_
            refine c_seq ?_
         
            refine c_ops ?_
            refine l_val rfl rfl rfl (r_move rfl) ?_
            refine l_val rfl rfl rfl (r_nilCheck rfl rfl) ?_
            refine l_val rfl rfl rfl (r_fieldAddr (n := 0) rfl Tryz.underlying68 rfl Tryz.sizeOf25 rfl) ?_
            refine l_val rfl rfl rfl (r_load_blk rfl Tryz.isAgg25 rfl (hL.get 1 rfl) rfl) ?_
            refine l_val rfl rfl rfl (r_move rfl) ?_
            refine l_val rfl rfl rfl (r_assign rfl) ?_
            refine l_val rfl rfl rfl (r_assign rfl) ?_
            refine l_val rfl rfl rfl (r_assign rfl) ?_
            refine l_nil ?_
            refine c_ret ?_
            exact FindOut.found (err_ok hck hin hma) hfn rfl (facts_at (hL.sub (.cons _ (.cons _ (.cons _ (.refl _))))) (fun x hx => List.mem_map.2 ⟨x, hx, rfl⟩) (hL.row 2 rfl) rfl).1 (Sl.ints_at (hL.row 0 rfl)) (hE0.trans hE)
end Go.Proofs.YtndophlnapjkhaaGreatDoor.Vc
namespace Go.Proofs.YtndophlnapjkhaaGreatDoor.Vc
open Go Go.RowKit
set_option linter.unusedVariables false
set_option linter.unusedSimpArgs false
theorem eq_arr2 (a b c d : Int) (w : World) : (Op.equalIn 10000 32 (.agg #[.int .i64 a, .int .i64 b]) (.agg #[.int .i64 c, .int .i64 d])).run Tryz.prog w = .ok (decide (a = c) && decide (b = d)) w := by
  have u3 := Tryz.underlying3
  have a3 := Tryz.isAgg3
  have z3 := Tryz.sizeOf3
  obtain ⟨i0, hinf, _⟩ := Option.map_eq_some_iff.1 info_int
  have hc : Tryz.prog.cellsOf 3 = 1 := by kernel_rfl
  rw [show (10000 : Nat) = 9999 + 1 from rfl, run_equalIn_array w 9999 _ _ Tryz.underlying32 hinf, hc, show List.range 2 = [0, 1] from rfl]
  simp only [Op.eqItems]
  go_simp
  by_cases h1 : a = c <;> by_cases h2 : b = d <;> simp [h1, h2]
theorem r_eql_arr2 {w : World} {ρ : Operand → Value} {o : Oper} {x y : Operand} {t' : TypeId} {p : Int × Int} (h : o.op = .binOp .eql 32 x y t') (hx : ρ x = .agg (cells2 p).toArray) (hy : ρ y = .agg (cells2 p).toArray) : (execOp ρ o).run Tryz.prog w = .ok (.value (.bool true)) w := by
  have hm : Tryz.prog.eqGuardType Tryz.prog.depth 32 = false := by kernel_rfl
  have h1 := run_eqGuard_agg (P := Tryz.prog) w .eql 32 x y (cells2 p).toArray (cells2 p).toArray hm
  have h2 := run_eql_struct (P := Tryz.prog) w 32 (cells2 p).toArray (cells2 p).toArray
  have h3 := eq_arr2 p.1 p.2 p.1 p.2 w
  have h5 : (Op.equalIn 10000 32 (.agg (cells2 p).toArray) (.agg (cells2 p).toArray)).run Tryz.prog w = .ok true w := by
    have := h3
    simp only [decide_true, Bool.and_self] at this
    exact this
  rw [h5] at h2
  simp only [execOp, h, hx, hy, Sem.run_bind, h1, Result.andThen_ok, h2]
  simp [h2]
theorem r_cutK {P : Program} {w : World} {ρ : Operand → Value} {o : Oper} {x i : Operand} {t el : TypeId} {A : Option Addr} {n c sz : Nat} {k : IntKind} (N : Nat) (h : o.op = .slice t x none (some i) none) (hu : P.underlying t = some (.slice el)) (hs : Sized P el sz) (hx : ρ x = .slice A n c) (hi : ρ i = .int k (if ((N : Nat) : Int) < (n : Int) then ((N : Nat) : Int) else (n : Int))) (hc : n ≤ c) : (execOp ρ o).run P w = .ok (.value (.slice A (min n N) c)) w := by
  have := r_slice_to (P := P) (w := w) h hu hs hx hi (by split <;> omega) (by split <;> omega)
  rw [cut_nat] at this
  exact this
theorem flat2 (l : FP) (j : Nat) : (l.map cells2).flatten[j]? = (l[j / 2]?).bind fun p => (cells2 p)[j % 2]? := by
  induction l generalizing j with
  | nil => simp
  | cons p r ih =>
    simp only [List.map_cons, List.flatten_cons]
    rcases Nat.lt_or_ge j 2 with h | h
    · rw [List.getElem?_append_left (by simpa [cells2] using h), Nat.div_eq_of_lt h, Nat.mod_eq_of_lt h]
      rfl
    · rw [List.getElem?_append_right (by simpa [cells2] using h), ih]
      have e1 : j / 2 = (j - 2) / 2 + 1 := by omega
      have e2 : (j - 2) % 2 = j % 2 := by omega
      show (r[(j - 2) / 2]?.bind fun p => (cells2 p)[(j - 2) % 2]?) = _
      rw [e1, e2]
      rfl
theorem n_append_pairs {w w0 : World} {ρ : Operand → Value} {o : Oper} {S : Nat → Prop} {L : List Res} {x y : Operand} {base n m c : Nat} {v : Value} {A : Option Addr} {xs : List Value} {ys : FP} (i : Nat) (h : o.op = .call { callee := .builtin .append, args := #[x, y], argTypes := #[23, 23] })
    (hx : ρ x = v) (hy : ρ y = .slice A m c) (hs : Sl w 2 RPair A m c ys) (hL : Has w L) (hE : Ext S w0 w) (hi : L[i]? = some (.row base 32 2 v n xs)) (hbytes : (n + m) * 16 ≤ 140737488355328) (hbase : w0.heap.size ≤ base) (hbw : base ≤ w.heap.size) :
    ∃ v' w', (execOp ρ o).run Tryz.prog w = .ok (.value v') w' ∧ Has w' (L.set i (.row base 32 2 v' (n + m) (xs ++ (ys.map cells2).flatten))) ∧ Ext S w0 w' := by
  have hl := hs.len
  cases A with
  | none =>
    have hm : m = 0 := by
      rcases Nat.eq_zero_or_pos m with h0 | h0
      · exact h0
      · have := hs.is h0
        cases this
    subst hm
    have hys : ys = [] := List.eq_nil_of_length_eq_zero hl
    subst hys
    obtain ⟨i0, hinf, _⟩ := Option.map_eq_some_iff.1 info_arr2
    refine ⟨v, w, r_append_no (P := Tryz.prog) i h Tryz.underlying23 hinf hx hy hL hi, ?_, hE⟩
    rw [List.map_nil, List.flatten_nil, List.append_nil, Nat.add_zero]
    have : L.set i (.row base 32 2 v n xs) = L := by
      apply List.ext_getElem?
      intro j
      rw [List.getElem?_set]
      split
      · rename_i e
        subst e
        have hil : i < L.length := (List.getElem?_eq_some_iff.1 hi).1
        rw [hi, if_pos hil]
      · rfl
    rw [this]
    exact hL
  | some a =>
    obtain ⟨v', w', hr, hL', hE', _⟩ := r_append (P := Tryz.prog) (w := w) (ys := (ys.map cells2).flatten) i h Tryz.underlying23 info_arr2 rfl (by decide) hx hy hL hE hi (by
      rw [List.length_flatten, List.map_map, ← hl]
      clear hs hl hy hbytes
      induction ys with
      | nil => rfl
      | cons p r ih => simp only [List.map_cons, List.sum_cons, Function.comp_apply, List.length_cons, Nat.add_mul, ih]; simp [cells2]; omega) (fun j u hj => by
      rw [flat2] at hj
      obtain ⟨p, hp, hu⟩ := Option.bind_eq_some_iff.1 hj
      obtain ⟨cs, h1, h2, h3⟩ := hs.at_ (j / 2) p hp
      rw [h2] at h3
      have := h3 (j % 2) u hu
      rwa [show j / 2 * 2 + j % 2 = j by omega] at this) (fun u hu => by
      obtain ⟨cs, hcs, hu⟩ := List.mem_flatten.1 hu
      obtain ⟨p, _, rfl⟩ := List.mem_map.1 hcs
      simp [cells2] at hu
      rcases hu with rfl | rfl <;> rfl) hbytes (by omega) hbase hbw
    exact ⟨v', w', hr, hL', hE'⟩
theorem rSame_true (w0 : World) (A : Option Addr) (c : Nat) (a : List Fact) (ha : FactsAt w0 A c a) (B : Option Addr) (d : Nat) (hb' : FactsAt w0 B d a) :
    Calls Tryz.prog 9 [.slice A a.length c, .slice B a.length d].toArray w0 fun en w' => en = .returned (.bool true) ∧ Ext0 w0 w' :=
  (rSame_calls w0 A c a ha B d a hb').mono fun en w' ⟨h1, h2⟩ => ⟨by rw [h1, decide_eq_true rfl], h2⟩
set_option maxHeartbeats 8000000 in
theorem Finds_calls (w0 : World) (hk0 : KeysLaid w0) (A : Option Addr) (c : Nat) (g : List GNode) (hg : Nodes w0 A c g) (Ap : Option Addr) (cp : Nat) (ps0 : FP) (hp0 : PairsAt w0 Ap cp ps0) :
    Calls Tryz.prog 3 [.slice A g.length c, .slice Ap ps0.length cp].toArray w0 fun en w' => en = .returned (.bool true) ∧ Ext0 w0 w' := by
  have hE : Ext0 w0 w0 := Ext.refl _ _
  have hL : Has w0 [] := trivial
  have hpc := hp0.cap
  refine calls [4] Tryz.func3 rfl rfl rfl rfl ?_
  refine c_seq ?_
  refine c_ops ?_
  refine l_val rfl rfl rfl (r_assign rfl) ?_
  refine l_nil ?_
  refine c_seq ?_
  refine c_ops ?_
  refine l_val rfl rfl rfl (r_move rfl) ?_
  refine l_by rfl rfl rfl (r_call rfl rfl Tryz.func6 rfl rfl) (cut_calls _ A c g hg) ?_
  rintro _ w ⟨A1, c1, hen, hn, hX⟩
  obtain ⟨gg, hgg⟩ : ∃ x, x = cutF g := ⟨_, rfl⟩
  have hlen := cutF_len g
  have hfit := cutF_fits g
  rw [← hgg] at hen hn hlen hfit
  subst hen
  replace hE := hE.trans hX
  obtain ⟨wa, hwa⟩ : ∃ x, x = w := ⟨_, rfl⟩
  rw [← hwa] at hn hE
  have hE0 := hE
  replace hE : Ext0 wa w := hwa ▸ Ext.refl _ _
  have hL : Has w [] := trivial
  replace hL := (hL.nilRow wa.heap.size 32 2).nilRow wa.heap.size 32 2
  refine ⟨_, rfl, ?_⟩
  refine l_val rfl rfl rfl (r_assign rfl) ?_
  refine l_nil ?_
  refine c_seq ?_
  refine c_ops ?_
  refine l_val rfl rfl rfl (r_assign rfl) ?_
  refine l_val rfl rfl rfl (r_assign rfl) ?_
  refine l_nil ?_
  refine c_seq ?_
  refine c_draw mixed (hL.sub (.cons _ (.cons _ .slnil))) hE ?_
  replace hL := hL.drew
  replace hE := hE.drew
  have hK := hL.sub (.cons _ (.cons _ .slnil))
  refine h_t 0 rfl rfl (by kernel_rfl) (fun _ _ _ h => h) ⟨hK, hE⟩ rfl (fun W hW => r_move rfl) ?_
  refine h_listed (listed' := #[T',F',F',F',F',F',F',F',F',F',F',F',F',F',F',F']) (by kernel_rfl) ?_
  refine h_t 1 rfl rfl (by kernel_rfl) (fun _ _ _ h => h) ⟨hK, hE⟩ rfl (fun W hW => r_move rfl) ?_
  refine h_listed (listed' := #[T',T',F',F',F',F',F',F',F',F',F',F',F',F',F',F']) (by kernel_rfl) ?_
  refine h_t 2 rfl rfl (by kernel_rfl) (fun _ _ _ h => h) ⟨hK, hE⟩ rfl (fun W hW => r_move rfl) ?_
  refine h_listed (listed' := #[T',T',T',F',F',F',F',F',F',F',F',F',F',F',F',F']) (by kernel_rfl) ?_
  refine h_t 3 rfl rfl (by kernel_rfl) (fun _ _ _ h => h) ⟨hK, hE⟩ rfl (fun W hW => r_len rfl Tryz.underlying23 rfl) ?_
  refine h_listed (listed' := #[T',T',T',T',F',F',F',F',F',F',F',F',F',F',F',F']) (by kernel_rfl) ?_
  refine h_t 4 rfl rfl (by kernel_rfl) (fun _ _ _ h => h) ⟨hK, hE⟩ rfl (fun W hW => r_min rfl rfl rfl) ?_
  refine h_listed (listed' := #[T',T',T',T',T',F',F',F',F',F',F',F',F',F',F',F']) (by kernel_rfl) ?_
  refine h_t 5 rfl rfl (by kernel_rfl) (fun _ _ _ h => h) ⟨hK, hE⟩ rfl (fun W hW => r_cutK 8 rfl Tryz.underlying23 Tryz.sizeOf32 rfl rfl hpc) ?_
  refine h_listed (listed' := #[T',T',T',T',T',T',F',F',F',F',F',F',F',F',F',F']) (by kernel_rfl) ?_
  refine h_t 7 rfl rfl (by kernel_rfl) (fun _ _ _ h => h) ⟨hK, hE⟩ rfl (fun W hW => r_move rfl) ?_
  refine h_listed (listed' := #[T',T',T',T',T',T',F',T',F',F',F',F',F',F',F',F']) (by kernel_rfl) ?_
  refine h_t 8 rfl rfl (by kernel_rfl) (fun _ _ _ h => h) ⟨hK, hE⟩ rfl (fun W hW => r_move rfl) ?_
  refine h_listed (listed' := #[T',T',T',T',T',T',F',T',T',F',F',F',F',F',F',F']) (by kernel_rfl) ?_
  refine h_t 9 rfl rfl (by kernel_rfl) (fun _ _ _ h => h) ⟨hK, hE⟩ rfl (fun W hW => r_move rfl) ?_
  refine h_listed (listed' := #[T',T',T',T',T',T',F',T',T',T',F',F',F',F',F',F']) (by kernel_rfl) ?_
  refine h_t 10 rfl rfl (by kernel_rfl) (fun _ _ _ h => h) ⟨hK, hE⟩ rfl (fun W hW => r_len rfl Tryz.underlying23 rfl) ?_
  refine h_listed (listed' := #[T',T',T',T',T',T',F',T',T',T',T',F',F',F',F',F']) (by kernel_rfl) ?_
  refine h_t 11 rfl rfl (by kernel_rfl) (fun _ _ _ h => h) ⟨hK, hE⟩ rfl (fun W hW => r_min rfl rfl rfl) ?_
  refine h_listed (listed' := #[T',T',T',T',T',T',F',T',T',T',T',T',F',F',F',F']) (by kernel_rfl) ?_
  refine h_t 12 rfl rfl (by kernel_rfl) (fun _ _ _ h => h) ⟨hK, hE⟩ rfl (fun W hW => r_cutK 8 rfl Tryz.underlying23 Tryz.sizeOf32 rfl rfl hpc) ?_
  refine h_listed (listed' := #[T',T',T',T',T',T',F',T',T',T',T',T',T',F',F',F']) (by kernel_rfl) ?_
  refine h_new 6 rfl rfl (by kernel_rfl) rfl (n_append_pairs 0 rfl rfl rfl ((hp0.keep RPair.kept (Ext0.cells (hE0.trans hE))).take 8) hL hE rfl (by omega) (Nat.le_refl _) hE.size) ?_
  rintro _ w ⟨hL, hE⟩
  have hK := hL.sub (.cons _ (.cons _ .slnil))
  refine ⟨⟨hK, hE⟩, ?_⟩
  refine h_listed (listed' := #[T',T',T',T',T',T',T',T',T',T',T',T',T',F',F',F']) (by kernel_rfl) ?_
  refine h_new 13 rfl rfl (by kernel_rfl) rfl (n_append_pairs 1 rfl rfl rfl ((hp0.keep RPair.kept (Ext0.cells (hE0.trans hE))).take 8) hL hE rfl (by omega) (Nat.le_refl _) hE.size) ?_
  rintro _ w ⟨hL, hE⟩
  obtain ⟨A5, c5, rfl⟩ := ownsRow_slice (hL.row 0 rfl)
  obtain ⟨A6, c6, rfl⟩ := ownsRow_slice (hL.row 1 rfl)
  obtain ⟨pp, hpp⟩ : ∃ pp, pp = ps0.take 8 := ⟨_, rfl⟩
  have hplen : 0 + min ps0.length 8 = pp.length := by rw [hpp, List.length_take]; omega
  have hps5 : Sl w 2 RPair A5 (0 + min ps0.length 8) c5 (ps0.take 8) := Sl.pairs_at (hL.row 0 rfl)
  have hps6 : Sl w 2 RPair A6 (0 + min ps0.length 8) c6 (ps0.take 8) := Sl.pairs_at (hL.row 1 rfl)
  rw [hplen, ← hpp] at hps5 hps6
  have hK := hL.sub (.cons _ (.cons _ .slnil))
  refine ⟨⟨hK, hE⟩, ?_⟩
  refine h_listed (listed' := #[T',T',T',T',T',T',T',T',T',T',T',T',T',T',F',F']) (by kernel_rfl) ?_
  refine h_t 14 rfl rfl (by kernel_rfl) (fun _ _ _ h => h) ⟨hK, hE⟩ rfl (fun W hW => r_assign rfl) ?_
  refine h_listed (listed' := #[T',T',T',T',T',T',T',T',T',T',T',T',T',T',T',F']) (by kernel_rfl) ?_
  refine h_t 15 rfl rfl (by kernel_rfl) (fun _ _ _ h => h) ⟨hK, hE⟩ rfl (fun W hW => r_assign rfl) ?_
  refine h_listed (listed' := #[T',T',T',T',T',T',T',T',T',T',T',T',T',T',T',T']) (by kernel_rfl) ?_
  refine h_done (by kernel_rfl) ?_
  refine c_fresh (fun e => e 0 = .slice A1 gg.length c1 ∧ e 5 = .slice A5 pp.length c5 ∧ e 6 = .slice A6 pp.length c6) ⟨rfl, (congrArg (fun n => Value.slice A5 n c5) hplen), (congrArg (fun n => Value.slice A6 n c6) hplen)⟩ ?_
  rintro e ⟨hq0, hq5, hq6⟩
  refine c_know (t := 0) (by exact hq0) ?_
  refine c_know (t := 5) (by exact hq5) ?_
  refine c_know (t := 6) (by exact hq6) ?_
  clear hq0 hq5 hq6
  refine c_seq ?_
  refine c_ops ?_
  refine l_val rfl rfl rfl (r_move rfl) ?_
  refine l_val rfl rfl rfl (r_move rfl) ?_
  replace hn := hn.keep RNode.kept (Ext0.cells hE)
  obtain ⟨wb, hwb⟩ : ∃ x, x = w := ⟨_, rfl⟩
  rw [← hwb] at hps5 hps6 hn hE
  replace hE0 := hE0.trans hE
  replace hE : Ext0 wb w := hwb ▸ Ext.refl _ _
  have hL : Has w [] := trivial
  have hpp8 : pp.length ≤ 8 := by omega
  have hpm := hps5.max
  refine l_by rfl rfl rfl (r_call rfl rfl Tryz.func7 rfl rfl) (Find_calls _ A1 c1 gg (hn.keep RNode.kept (Ext0.cells hE)) hfit hlen (hk0.keep (Ext0.cells (hE0.trans hE))) A5 c5 pp (hps5.keep RPair.kept (Ext0.cells hE)) (by omega)) ?_
  rintro _ w ⟨A3, c3, A4, c4, rfl, hf3, hi4, hX⟩
  replace hE := hE.trans hX
  refine ⟨_, rfl, ?_⟩
  refine l_val rfl rfl rfl (r_move rfl) ?_
  refine l_val rfl rfl rfl (r_extract rfl rfl rfl) ?_
  refine l_val rfl rfl rfl (r_extract rfl rfl rfl) ?_
  refine l_val rfl rfl rfl (r_extract rfl rfl rfl) ?_
  refine l_val rfl rfl rfl (r_assign rfl) ?_
  refine l_val rfl rfl rfl (r_assign rfl) ?_
  refine l_val rfl rfl rfl (r_assign rfl) ?_
  refine l_nil ?_
  refine c_seq ?_
  refine c_ops ?_
  refine l_val rfl rfl rfl (r_move rfl) ?_
  refine l_val rfl rfl rfl (r_move rfl) ?_
  refine l_by rfl rfl rfl (r_call rfl rfl Tryz.func8 rfl rfl) (rFind_calls _ A1 c1 gg (hn.keep RNode.kept (Ext0.cells hE)) hfit hlen A6 c6 pp (hps6.keep RPair.kept (Ext0.cells hE)) (by omega)) ?_
  rintro _ w ⟨B3, d3, B4, d4, rfl, hf5, hi6, hX⟩
  replace hE := hE.trans hX
  replace hf3 := hf3.keep RFact.kept (Ext0.cells hX)
  replace hi4 := hi4.keep RInt.kept (Ext0.cells hX)
  refine ⟨_, rfl, ?_⟩
  refine l_val rfl rfl rfl (r_move rfl) ?_
  refine l_val rfl rfl rfl (r_extract rfl rfl rfl) ?_
  refine l_val rfl rfl rfl (r_extract rfl rfl rfl) ?_
  refine l_val rfl rfl rfl (r_extract rfl rfl rfl) ?_
  refine l_val rfl rfl rfl (r_assign rfl) ?_
  refine l_val rfl rfl rfl (r_assign rfl) ?_
  refine l_val rfl rfl rfl (r_assign rfl) ?_
  refine l_nil ?_
  refine c_fresh (fun e => e 0 = .slice A1 gg.length c1 ∧ e 5 = .slice A5 pp.length c5 ∧ e 6 = .slice A6 pp.length c6 ∧ e 7 = .slice A3 (foundF gg pp).2.length c3 ∧ e 8 = .slice A4 (foundF gg pp).1.length c4 ∧ e 9 = .int .i64 (findErr gg pp) ∧ e 10 = .slice B3 (foundF gg pp).2.length d3 ∧ e 11 = .slice B4 (foundF gg pp).1.length d4 ∧ e 12 = .int .i64 (findErr gg pp)) ⟨rfl, rfl, rfl, rfl, rfl, rfl, rfl, rfl, rfl⟩ ?_
  rintro e ⟨hq0, hq5, hq6, hq7, hq8, hq9, hq10, hq11, hq12⟩
  refine c_know (t := 0) (by exact hq0) ?_
  refine c_know (t := 5) (by exact hq5) ?_
  refine c_know (t := 6) (by exact hq6) ?_
  refine c_know (t := 7) (by exact hq7) ?_
  refine c_know (t := 8) (by exact hq8) ?_
  refine c_know (t := 9) (by exact hq9) ?_
  refine c_know (t := 10) (by exact hq10) ?_
  refine c_know (t := 11) (by exact hq11) ?_
  refine c_know (t := 12) (by exact hq12) ?_
  clear hq0 hq5 hq6 hq7 hq8 hq9 hq10 hq11 hq12
  refine c_seq ?_
  refine c_ops ?_
  refine l_val rfl rfl rfl (r_move rfl) ?_
  refine l_val rfl rfl rfl (r_move rfl) ?_
  refine l_by rfl rfl rfl (r_call rfl rfl Tryz.func9 rfl rfl) (rSame_true _ A3 c3 _ hf3 B3 d3 hf5) ?_
  rintro _ w ⟨rfl, hX⟩
  replace hE := hE.trans hX
  replace hi4 := hi4.keep RInt.kept (Ext0.cells hX)
  replace hi6 := hi6.keep RInt.kept (Ext0.cells hX)
  refine ⟨_, rfl, ?_⟩
  refine l_val rfl rfl rfl (r_move rfl) ?_
  refine l_val rfl rfl rfl (r_move rfl) ?_
  refine l_val rfl rfl rfl (r_move rfl) ?_
  refine l_by rfl rfl rfl (r_call rfl rfl Tryz.func10 rfl rfl) (EqInts_true _ A4 c4 _ hi4 B4 d4 hi6) ?_
  rintro _ w ⟨rfl, hX⟩
  replace hE := hE.trans hX
  refine ⟨_, rfl, ?_⟩
  refine l_val rfl rfl rfl (r_pick rfl rfl) ?_
  refine l_val rfl rfl rfl (r_move rfl) ?_
  refine l_val rfl rfl rfl (r_move rfl) ?_
  refine l_val rfl rfl rfl (r_move rfl) ?_
  refine l_val rfl rfl rfl (r_eql rfl rfl rfl) ?_
  refine l_know (t := 56) (v := .bool true) (congrArg Value.bool (decide_eq_true rfl)) ?_
  refine l_val rfl rfl rfl (r_pick rfl rfl) ?_
  refine l_val rfl rfl rfl (r_assign rfl) ?_
  refine l_nil ?_
  refine c_seq ?_
  refine c_seq ?_
  refine c_ops ?_
  refine l_val rfl rfl rfl (r_assign rfl) ?_
  refine l_nil ?_
  refine c_block ?_
  refine c_loop0 (fun m1 e w => (e 5 = .slice A5 pp.length c5 ∧ e 6 = .slice A6 pp.length c6 ∧ e 13 = .bool true) ∧ ∃ (k : Nat), k ≤ pp.length ∧ m1 = pp.length - k ∧ e 14 = .int .i64 (k : Nat) ∧ Ext0 wb w) (pp.length) ?_ ?_
  · exact ⟨⟨rfl, rfl, rfl⟩, 0, Nat.zero_le _, rfl, rfl, hE⟩
  rintro m1 e w ⟨⟨hq5, hq6, hq13⟩, hI⟩
  refine c_know (t := 5) (by exact hq5) ?_
  refine c_know (t := 6) (by exact hq6) ?_
  refine c_know (t := 13) (by exact hq13) ?_
  clear hq5 hq6 hq13
  obtain ⟨k, hkl, hkm, h14s, hE⟩ := hI
  refine c_know (t := 14) (by exact h14s) ?_
  have hL : Has w [] := trivial
  refine c_seq ?_
  refine c_seq ?_
  refine c_ops ?_
  refine l_val rfl rfl rfl (r_move rfl) ?_
  refine l_val rfl rfl rfl (r_move rfl) ?_
  refine l_val rfl rfl rfl (r_len rfl Tryz.underlying23 rfl) ?_
  refine l_val rfl rfl rfl (r_lss rfl rfl rfl) ?_
  refine l_nil ?_
  refine c_cond rfl (fun hb => ?_) (fun hb => ?_)
  · have hr61 := hb
    replace hb := of_decide_eq_true hb
    have hklt : k < pp.length := by omega
    refine c_skip ?_
    refine c_seq ?_
    refine c_block ?_
 
    refine c_draw mixed (hL) hE ?_
    replace hL := hL.drew
    replace hE := hE.drew
    have hK := hL
    refine h_t 0 rfl rfl (by kernel_rfl) (fun _ _ _ h => h) ⟨hK, hE⟩ rfl (fun W hW => r_move rfl) ?_
    refine h_listed (listed' := #[T',F',F',F',F',F',F',F',F',F',F',F',F']) (by kernel_rfl) ?_
    refine h_t 1 rfl rfl (by kernel_rfl) (fun _ _ _ h => h) ⟨hK, hE⟩ rfl (fun W hW => r_move rfl) ?_
    refine h_listed (listed' := #[T',T',F',F',F',F',F',F',F',F',F',F',F']) (by kernel_rfl) ?_
    refine h_t 2 rfl rfl (by kernel_rfl) (fun _ _ _ h => h) ⟨hK, hE⟩ rfl (fun W hW => r_move rfl) ?_
    refine h_listed (listed' := #[T',T',T',F',F',F',F',F',F',F',F',F',F']) (by kernel_rfl) ?_
    refine h_t 3 rfl rfl (by kernel_rfl) (fun _ _ _ h => h) ⟨hK, hE⟩ rfl (fun W hW => r_move rfl) ?_
    refine h_listed (listed' := #[T',T',T',T',F',F',F',F',F',F',F',F',F']) (by kernel_rfl) ?_
    refine h_t 4 rfl rfl (by kernel_rfl) (fun _ _ _ h => h) ⟨hK, hE⟩ rfl (fun W hW => r_indexAddr_sl rfl Tryz.underlying23 Tryz.sizeOf32 rfl hps5.is rfl (by omega) (by omega)) ?_
    refine h_listed (listed' := #[T',T',T',T',T',F',F',F',F',F',F',F',F']) (by kernel_rfl) ?_
    refine h_t 5 rfl rfl (by kernel_rfl) (fun _ _ _ h => h) ⟨hK, hE⟩ rfl (fun W hW => r_load_agg (vs := cells2 (pp.getD (k : Int).toNat (0, 0))) rfl Tryz.isAgg32 Tryz.sizeOf32 rfl (fun j v hj => Ext0.cells hW.2 _ _ (hps5.pair k (by omega) (by omega) j v hj))) ?_
    refine h_listed (listed' := #[T',T',T',T',T',T',F',F',F',F',F',F',F']) (by kernel_rfl) ?_
    refine h_t 6 rfl rfl (by kernel_rfl) (fun _ _ _ h => h) ⟨hK, hE⟩ rfl (fun W hW => r_move rfl) ?_
    refine h_listed (listed' := #[T',T',T',T',T',T',T',F',F',F',F',F',F']) (by kernel_rfl) ?_
    refine h_t 7 rfl rfl (by kernel_rfl) (fun _ _ _ h => h) ⟨hK, hE⟩ rfl (fun W hW => r_move rfl) ?_
    refine h_listed (listed' := #[T',T',T',T',T',T',T',T',F',F',F',F',F']) (by kernel_rfl) ?_
    refine h_t 8 rfl rfl (by kernel_rfl) (fun _ _ _ h => h) ⟨hK, hE⟩ rfl (fun W hW => r_indexAddr_sl rfl Tryz.underlying23 Tryz.sizeOf32 rfl hps6.is rfl (by omega) (by omega)) ?_
    refine h_listed (listed' := #[T',T',T',T',T',T',T',T',T',F',F',F',F']) (by kernel_rfl) ?_
    refine h_t 9 rfl rfl (by kernel_rfl) (fun _ _ _ h => h) ⟨hK, hE⟩ rfl (fun W hW => r_load_agg (vs := cells2 (pp.getD (k : Int).toNat (0, 0))) rfl Tryz.isAgg32 Tryz.sizeOf32 rfl (fun j v hj => Ext0.cells hW.2 _ _ (hps6.pair k (by omega) (by omega) j v hj))) ?_
    refine h_listed (listed' := #[T',T',T',T',T',T',T',T',T',T',F',F',F']) (by kernel_rfl) ?_
    refine h_t 10 rfl rfl (by kernel_rfl) (fun _ _ _ h => h) ⟨hK, hE⟩ rfl (fun W hW => r_eql_arr2 rfl rfl rfl) ?_
    refine h_listed (listed' := #[T',T',T',T',T',T',T',T',T',T',T',F',F']) (by kernel_rfl) ?_
    refine h_t 11 rfl rfl (by kernel_rfl) (fun _ _ _ h => h) ⟨hK, hE⟩ rfl (fun W hW => r_pick rfl rfl) ?_
    refine h_listed (listed' := #[T',T',T',T',T',T',T',T',T',T',T',T',F']) (by kernel_rfl) ?_
    refine h_t 12 rfl rfl (by kernel_rfl) (fun _ _ _ h => h) ⟨hK, hE⟩ rfl (fun W hW => r_assign rfl) ?_
    refine h_listed (listed' := #[T',T',T',T',T',T',T',T',T',T',T',T',T']) (by kernel_rfl) ?_
    refine h_done (by kernel_rfl) ?_
 
    refine c_ops ?_
    refine l_val rfl rfl rfl (r_move rfl) ?_
    refine l_val rfl rfl rfl (r_add rfl rfl rfl) ?_
    refine l_val rfl rfl rfl (r_assign rfl) ?_
    refine l_nil ?_
    exact ⟨pp.length - (k + 1), by omega, ⟨rfl, rfl, rfl⟩, k + 1, by omega, rfl, by show Value.int .i64 (IntKind.i64.wrap ((k : Int) + 1)) = _; rw [wrap_succ hklt hpm], hE⟩
  · have hr61 := hb
    replace hb := of_decide_eq_false hb
    refine c_exit ?_
    refine c_seq ?_
 
    refine c_ops ?_
    refine l_val rfl rfl rfl (r_move rfl) ?_
    refine l_val rfl rfl rfl (r_move rfl) ?_
    refine l_by rfl rfl rfl (r_call rfl rfl Tryz.func11 rfl rfl) (works_calls _ (hk0.keep (Ext0.cells (hE0.trans hE)))) ?_
    rintro _ w ⟨rfl, hX⟩
    replace hE := hE.trans hX
    refine ⟨_, rfl, ?_⟩
    refine l_val rfl rfl rfl (r_pick rfl rfl) ?_
    refine l_val rfl rfl rfl (r_assign rfl) ?_
    refine l_nil ?_
    refine c_ret ?_
    exact ⟨rfl, hE0.trans hE⟩
end Go.Proofs.YtndophlnapjkhaaGreatDoor.Vc
namespace Go.Proofs.YtndophlnapjkhaaGreatDoor.Vc
open Go Go.RowKit Go.ChangeShapes Go.WideShapes Go.Deep
set_option linter.unusedVariables false
set_option maxRecDepth 100000
set_option linter.unusedSimpArgs false
section
variable {H : Type} {enc : TypeId × Value → H} {w : World} {base : Nat} {spare : Nat → Bool} {held : Bool}
theorem sl_of_trod {P : Program} {α : Type} [Inhabited α] {R : World → α → List Value → Prop} {t e : TypeId} {sz fuel : Nat} {cs : List Value} {x : DataW H × List MemPlace} (ht : P.underlying t = some (.slice e)) (hc : P.cellsOf e = sz)
    (he : ∀ n cs x, DataW.trod enc P w base spare held n e cs = some x → ∃ y : α, R w y cs) (h : DataW.trod enc P w base spare held fuel t cs = some x) : ∃ A len cap xs, cs = [.slice A len cap] ∧ Sl w sz R A len cap (xs : List α) := by
  rcases open_slice ht h with ⟨rfl, _⟩ | ⟨a, len, cap, m, n, D, Pl, rfl, hb, hl, hm, hmm, _, hx⟩
  · exact ⟨none, 0, 0, [], rfl, Sl.nil _ _ _ _ _⟩
  · have hlm : len ≤ m := by rw [hmm]; split <;> omega
    have each : ∀ i, i < len → ∃ y : α, ∃ cs', cs'.length = sz ∧ R w y cs' ∧ ∀ j v, cs'[j]? = some v → w.cell? (a.add (i * sz + j)) = some v := fun i hi => by
      obtain ⟨cs', h1, h2⟩ := hx i (by omega)
      obtain ⟨y, hy⟩ := he _ _ _ h2
      obtain ⟨_, hlen, hcell⟩ := World.cells?_some h1
      rw [hc] at hlen hcell
      refine ⟨y, cs', hlen, hy, fun j v hj => ?_⟩
      have hjl := (List.getElem?_eq_some_iff.1 hj).1
      have := hcell j (by omega)
      rw [adr_add, hj] at this
      exact this
    obtain ⟨q, hq⟩ := choose_lt each
    refine ⟨some a, len, cap, (List.range len).map q, rfl, ⟨by simp, hl, by simp only [maxLen] at hm; omega, fun _ => rfl, fun i y hy => ?_⟩⟩
    rw [List.getElem?_map, Option.map_eq_some_iff] at hy
    obtain ⟨i', hi', rfl⟩ := hy
    have hil := (List.getElem?_eq_some_iff.1 hi').1
    have he' : i' = i := by
      have := (List.getElem?_eq_some_iff.1 hi').2
      simpa using this.symm
    subst he'
    obtain ⟨cs', h1, h2, h3⟩ := hq i' (by simpa using hil)
    exact ⟨cs', h1, h2, h3⟩
theorem int_of_trod (n : Nat) (cs : List Value) (x : DataW H × List MemPlace) (h : DataW.trod enc Tryz.prog w base spare held n 3 cs = some x) : ∃ y : Int, RInt w y cs := by
  obtain ⟨k, rfl, _⟩ := DataW.trod_int Tryz.underlying3 h
  exact ⟨k, rfl⟩
theorem str_of_trod (n : Nat) (cs : List Value) (x : DataW H × List MemPlace) (h : DataW.trod enc Tryz.prog w base spare held n 9 cs = some x) : ∃ y : ByteArray, RStr w y cs := by
  obtain ⟨k, rfl, _⟩ := DataW.trod_string Tryz.underlying9 h
  exact ⟨k, rfl⟩
theorem pair_of_trod (n : Nat) (cs : List Value) (x : DataW H × List MemPlace) (h : DataW.trod enc Tryz.prog w base spare held n 32 cs = some x) : ∃ y : Int × Int, RPair w y cs := by
  obtain ⟨xs, m, _, _, hlen, hxl, hel⟩ := DataW.trod_array Tryz.underlying32 h
  have c1 : Tryz.prog.cellsOf 3 = 1 := by kernel_rfl
  have c2 : Tryz.prog.cellsOf 32 = 2 := by kernel_rfl
  rw [c2] at hlen
  match cs, hlen, xs, hxl with
  | [v0, v1], _, [x0, x1], _ =>
    have h0 := hel 0 (by decide)
    have h1 := hel 1 (by decide)
    simp [c1] at h0 h1
    obtain ⟨a, e0, _⟩ := DataW.trod_int Tryz.underlying3 h0
    obtain ⟨b, e1, _⟩ := DataW.trod_int Tryz.underlying3 h1
    simp at e0 e1
    subst e0; subst e1
    exact ⟨(a, b), rfl⟩
instance : Inhabited GNode := ⟨GNode.nil⟩
theorem node_of_trod (n : Nat) (cs : List Value) (x : DataW H × List MemPlace) (h : DataW.trod enc Tryz.prog w base spare held n 46 cs = some x) : ∃ y : GNode, RNode w y cs := by
  obtain ⟨xs, m, _, _, hlen, hxl, hel⟩ := DataW.trod_struct Tryz.underlying46 h
  have c1 : Tryz.prog.cellsOf 3 = 1 := by kernel_rfl
  have c2 : Tryz.prog.cellsOf 9 = 1 := by kernel_rfl
  have c3 : Tryz.prog.cellsOf 44 = 1 := by kernel_rfl
  have c4 : Tryz.prog.cellsOf 26 = 1 := by kernel_rfl
  have c5 : Tryz.prog.cellsOf 46 = 5 := by kernel_rfl
  rw [c5] at hlen
  match cs, hlen, xs, hxl with
  | [v0, v1, v2, v3, v4], _, [x0, x1, x2, x3, x4], _ =>
    have h0 := hel 0 _ rfl
    have h1 := hel 1 _ rfl
    have h2 := hel 2 _ rfl
    have h3 := hel 3 _ rfl
    have h4 := hel 4 _ rfl
    simp [c1, c2, c3, c4] at h0 h1 h2 h3 h4
    obtain ⟨a, e0, _⟩ := DataW.trod_int Tryz.underlying3 h0
    obtain ⟨b, e1, _⟩ := DataW.trod_int Tryz.underlying3 h1
    obtain ⟨s, e2, _⟩ := DataW.trod_string Tryz.underlying9 h2
    obtain ⟨Ak, nk, ck, ks, e3, hk⟩ := sl_of_trod Tryz.underlying44 c2 str_of_trod h3
    obtain ⟨Al, nl, cl, l, e4, hl⟩ := sl_of_trod Tryz.underlying26 c1 int_of_trod h4
    simp at e0 e1 e2 e3 e4
    subst e0; subst e1; subst e2; subst e3; subst e4
    refine ⟨⟨a, b, s, ks, l⟩, Ak, ck, Al, cl, ?_, ?_, ?_⟩
    · simp [nodeCells, hk.len, hl.len]
    · rw [hk.len]; exact hk
    · rw [hl.len]; exact hl
theorem nodes_of {v : Value} {d : DataW H} {ps : List MemPlace} (hv : ∃ a len cap, v = .slice a len cap) (h : DataW.Trod enc Tryz.prog w base spare held 22 v d ps) : ∃ A c g, v = .slice A (List.length g) c ∧ Nodes w A c g := by
  obtain ⟨a, len, cap, rfl⟩ := hv
  obtain ⟨fuel, hf⟩ := h
  obtain ⟨A, n, c, g, e, hs⟩ := sl_of_trod Tryz.underlying22 (by kernel_rfl : Tryz.prog.cellsOf 46 = 5) node_of_trod hf
  have e' : Value.slice a len cap = .slice A n c := by simpa [Value.cells] using e
  refine ⟨A, c, g, by rw [e', hs.len], ?_⟩
  unfold Nodes
  rw [hs.len]
  exact hs
theorem pairs_of {v : Value} {d : DataW H} {ps : List MemPlace} (hv : ∃ a len cap, v = .slice a len cap) (h : DataW.Trod enc Tryz.prog w base spare held 23 v d ps) : ∃ A c l, v = .slice A (List.length l) c ∧ PairsAt w A c l := by
  obtain ⟨a, len, cap, rfl⟩ := hv
  obtain ⟨fuel, hf⟩ := h
  obtain ⟨A, n, c, g, e, hs⟩ := sl_of_trod Tryz.underlying23 (by kernel_rfl : Tryz.prog.cellsOf 32 = 2) pair_of_trod hf
  have e' : Value.slice a len cap = .slice A n c := by simpa [Value.cells] using e
  refine ⟨A, c, g, by rw [e', hs.len], ?_⟩
  unfold PairsAt
  rw [hs.len]
  exact hs
theorem trod_ext {P : Program} {W W' : World} (h : Ext0 W W') {t : TypeId} {v : Value} {d : DataW H} {ps : List MemPlace} (hlt : ∀ p ∈ ps, p.block < W.heap.size) (hd : DataW.Trod enc P W base spare held t v d ps) : DataW.Trod enc P W' base spare held t v d ps := by
  obtain ⟨fuel, hf⟩ := hd
  exact ⟨fuel, DataW.trod_carry fuel t _ _ hf (fun p hp => h.below0.same (hlt p hp))⟩
theorem trodAll_ext {P : Program} {W W' : World} (h : Ext0 W W') : ∀ {ts : List TypeId} {vs : List Value} {ds : List (DataW H)} {ps : List MemPlace}, (∀ p ∈ ps, p.block < W.heap.size) → DataW.TrodAll enc P W base spare held ts vs ds ps → DataW.TrodAll enc P W' base spare held ts vs ds ps
  | [], [], [], _, _, hd => hd
  | _ :: _, _ :: _, _ :: _, _, hlt, hd => by
    obtain ⟨p, q, h1, h2, rfl⟩ := hd
    exact ⟨p, q, trod_ext h (fun x hx => hlt x (List.mem_append_left _ hx)) h1, trodAll_ext h (fun x hx => hlt x (List.mem_append_right _ hx)) h2, rfl⟩
end
theorem kids : Kids Tryz.prog (· < Tryz.prog.types.size) := kids_rows (by kernel_rfl) (by kernel_rfl)
theorem full : ∀ t e, t < Tryz.prog.types.size → Tryz.prog.underlying t = some (.slice e) → 0 < Tryz.prog.cellsOf e := slices_full_of Tryz.prog (by kernel_rfl)
theorem own : ownKnob Tryz.prog.godebug = none := by kernel_rfl
theorem gKeys : Tryz.prog.globalNamed "armillary/lex.keys" = some 0 := by kernel_rfl
theorem tKeys : (Tryz.prog.globals[0]?).map (·.type) = some 120 := by kernel_rfl
noncomputable abbrev laidRow : List (String × DataW Unit) := [("armillary/lex.keys", Rows.laid_armillary_lex_keys)]
theorem laid_is : (Rows.laid_armillary_lex_keys : DataW Unit) = .agg (keysL.map fun s => .lit (.string s.data.toList)) := by kernel_rfl
theorem keys_of_laid {W : World} (h : laidMetH Tryz.prog laidRow W) : KeysLaid W := by
  rw [MakeChecks.laidMetH_plain _ _ _ (by kernel_rfl)] at h
  obtain ⟨ps, ⟨g0, t0, cs0, f0, p0, q0, hg0, ht0, hv0, hd0, _, _⟩, _, _⟩ := h
  obtain rfl := Option.some.inj (gKeys.symm.trans hg0)
  obtain rfl := Option.some.inj (tKeys.symm.trans ht0)
  obtain ⟨xs, m1, rfl, hx1, hlen, hn, hel⟩ := DataW.trod_array Tryz.underlying120 hd0
  have c1 : Tryz.prog.cellsOf 9 = 1 := by kernel_rfl
  simp only [Prod.mk.injEq] at hx1
  have hxs : xs.map (·.1) = keysL.map fun s => DataW.lit (.string s.data.toList) := by
    have := hx1.1
    rw [laid_is] at this
    injection this with this
    exact this.symm
  intro i s hs
  have hk18 : keysL.length = 18 := by decide
  have hi : i < 18 := by have := (List.getElem?_eq_some_iff.1 hs).1; omega
  have h0 := hel i hi
  rw [c1, Nat.mul_one] at h0
  have hxi : xs[i]? = some (xs[i]'(by omega)) := List.getElem?_eq_getElem (by omega)
  rw [hxi] at h0
  obtain ⟨s', e1, e2, _⟩ := DataW.trod_string Tryz.underlying9 h0
  have h2 : (xs.map (·.1))[i]? = some (xs[i]'(by omega)).1 := by rw [List.getElem?_map, hxi]; rfl
  rw [hxs, List.getElem?_map, hs, e2] at h2
  have h3 : s.data.toList = s'.data.toList := by simpa using h2
  have h4 : s = s' := ByteArray.ext (Array.toList_inj.1 h3)
  subst h4
  have hv := World.var?_cell hg0 hv0 i
  rw [hv]
  have h5 : ((cs0.toList.drop i).take 1)[0]? = some (.string s) := by rw [e1]; rfl
  rw [List.getElem?_take, if_pos (by decide), List.getElem?_drop, Nat.add_zero] at h5
  simpa using h5
theorem post_of_ext {H : Type} {enc : TypeId × Value → H} {P : Program} {f : Func} {s : ChangeSpec} {apart fresh handsOn again : Bool} {W W' : World} {args : Array Value} {v : Value} {ds gs : List (DataW H)} {before : List MemPlace}
    (hW : DataW.Whole enc P f.params.toList s.vars apart W args.toList ds gs before)
    (hres : ∀ (b : Nat) (sp : Nat → Bool) (hd : Bool), DataW.TrodAll enc P W' b sp hd f.resultTypes.toList (v.resultList f.resultTypes.size) (s.fn H (ds ++ gs)).results [])
    (hargs : ∀ sp : Nat → Bool, (∀ p ∈ before, sp p.block = true) → DataW.TrodAll enc P W' 0 sp true f.params.toList args.toList (s.fn H (ds ++ gs)).args before)
    (hvars : ∀ sp : Nat → Bool, DataW.TrodVars enc P W' sp s.vars (s.fn H (ds ++ gs)).vars [])
    (hE : Ext0 W W')
    (hok : ∀ (j : Nat) (t : TypeId) (r : Value), f.resultTypes[j]? = some t → (v.resultList f.resultTypes.size)[j]? = some r → Value.okWide P W' .any 0 t r) :
    s.post enc P f apart fresh handsOn again W args v W' := by
  have hold : ∀ p ∈ before, (fun b => decide (b < W.heap.size)) p.block = true := fun p hp => by simpa using hW.lt p hp
  refine ⟨ds, gs, before, [], before, [], hW, hres _ _ _, hargs _ hold, hvars _, hE.below0.frame _, fun _ => ?_⟩
  have hlt := hW.lt
  obtain ⟨_, _, _, _, _, hz, hn⟩ := hW
  refine ⟨hok, _, _, ([] ++ before) ++ [], ⟨[] ++ before, [], trodAll_append (hargs _ (fun _ _ => rfl)) (hres _ _ _), hvars _, rfl, ?_, ?_⟩, ?_⟩
  · intro b off hp
    have hp' : MemPlace.cell b off ∈ before := by simpa using hp
    rw [World.frozen?_of_block (w := W) (hE.block b (hlt _ hp') (fun h => h))]
    exact hz b off hp'
  · intro ha
    simpa using hn ha
  · intro p hp _
    simpa using hp
end Go.Proofs.YtndophlnapjkhaaGreatDoor.Vc
