/- Laws and walks for what the last text proves, part 5: FactKnown of the layer 'fact'. Conditions: those of each statement. -/
import Derived.Test.YtndophlnapjkhaaGreatDoorPk4
set_option linter.unusedVariables false
set_option linter.unusedSimpArgs false
set_option linter.unusedSectionVars false
namespace Go.Proofs.YtndophlnapjkhaaGreatDoor.Vc
open Go Go.RowKit
set_option linter.unusedVariables false
set_option linter.unusedSimpArgs false
def fieldF (x : GNode) (key : ByteArray) : Int := if idxV (idxS x.keys key) < 0 then -1 else iat x.l (idxV (idxS x.keys key))
theorem fieldF_some {x : GNode} {key : ByteArray} {k : Nat} (h : idxS x.keys key = some k) : fieldF x key = iat x.l k := by
 unfold fieldF
 rw [h]
 exact if_neg (by simp only [idxV]; omega)
theorem idx_step {xs : List ByteArray} {s : ByteArray} {k : Nat} (hk : k < xs.length) : findS (fun (_ : Unit) x => (decide (s = x), ())) k () (xs.drop k) = if s = kat xs k then (some k, ()) else findS (fun (_ : Unit) x => (decide (s = x), ())) (k + 1) () (xs.drop (k + 1)) := by
 rw [findS_step (fun (_ : Unit) x => (decide (s = x), ())) () xs k _ (kat_some hk)]
 by_cases h : s = kat xs k <;> simp [h]
theorem field_rcalls (w0 : World) (s : GNode) (Ak : Option Addr) (ck : Nat) (Al : Option Addr) (cl : Nat) (hsk : Strs w0 Ak ck s.keys) (hsl : Ints w0 Al cl s.l) (hlen : s.l.length = s.keys.length) (key : ByteArray) :
    Calls Tryz.prog 120 [.agg (nodeCells s Ak ck Al cl).toArray, .string key].toArray w0 fun en w' => en = .returned (.int .i64 (fieldF s key)) ∧ Ext0 w0 w' := by
 have hE : Ext0 w0 w0 := Ext.refl _ _
 have hL : Has w0 [] := trivial
 refine calls [4] Tryz.func120 rfl rfl rfl rfl ?_
 refine c_seq ?_
 refine c_ops ?_
 refine l_new rfl rfl rfl (n_box rfl hL hE) ?_
 rintro _ w ⟨b2, rfl, hb2, hL, hE, hX⟩
 refine as' rfl rfl rfl rfl ?_
 refine l_nil ?_
 refine c_seq ?_
 refine c_seq ?_
 refine c_ops ?_
 refine as' rfl rfl rfl rfl ?_
 refine l_nil ?_
 refine c_block ?_
 refine c_loop [4, 5, 6, 7, 8, 9, 10, 11, 12, 13, 14, 15, 16, 17, 18, 19, 20, 21, 22, 23, 24] (fun m1 e w => ∃ (k : Nat), k ≤ s.keys.length ∧ m1 = s.keys.length - k ∧ e 5 = .int .i64 (k : Nat) ∧ (idxS s.keys key) = (findS (fun (_ : Unit) x => (decide (key = x), ())) k () (s.keys.drop k)).1 ∧ Has w [.blk b2 (.cells (nodeCells s Ak ck Al cl).toArray 46 (0, 0))] ∧ Ext0 w0 w) (s.keys.length) ?_ ?_
 ·exact ⟨0, Nat.zero_le _, rfl, rfl, rfl, hL, hE⟩
 intro m1 e w hI
 obtain ⟨k, hkl, hkm, h5s, hfind, hL, hE⟩ := hI
 refine c_know (t := 5) (by exact h5s) ?_
 refine c_seq ?_
 refine c_seq ?_
 refine c_ops ?_
 refine mv' rfl rfl rfl rfl ?_
 refine l_val rfl rfl rfl (r_fieldAddr (n := 0) rfl Tryz.underlying46 rfl Tryz.sizeOf44 rfl) ?_
 refine l_val rfl rfl rfl (r_load_blk rfl Tryz.isAgg44 rfl (hL.get 0 rfl) rfl) ?_
 refine l_val rfl rfl rfl (r_len rfl Tryz.underlying44 rfl) ?_
 refine l_val rfl rfl rfl (r_lss rfl rfl rfl) ?_
 refine l_nil ?_
 refine c_cond rfl (fun hb => ?_) (fun hb => ?_)
 ·have hr10 := hb
  replace hb := of_decide_eq_true hb
  have hklt : k < s.keys.length := by omega
  refine c_skip ?_
  refine c_seq ?_
  refine c_block ?_
  refine c_seq ?_
  refine c_ops ?_
  refine l_val rfl rfl rfl (r_fieldAddr (n := 0) rfl Tryz.underlying46 rfl Tryz.sizeOf44 rfl) ?_
  refine l_val rfl rfl rfl (r_load_blk rfl Tryz.isAgg44 rfl (hL.get 0 rfl) rfl) ?_
  refine mv' rfl rfl rfl rfl ?_
  refine l_val rfl rfl rfl (r_indexAddr_sl rfl Tryz.underlying44 Tryz.sizeOf9 rfl hsk.is rfl (by omega) (by omega)) ?_
  refine l_val rfl rfl rfl (r_load (v := .string (kat s.keys k)) rfl Tryz.isAgg9 rfl ((hsk.keep RStr.kept (Ext0.cells hE)).str k (by omega) (by omega))) ?_
  refine mv' rfl rfl rfl rfl ?_
  refine l_val rfl rfl rfl (r_seql rfl rfl rfl) ?_
  refine l_nil ?_
  refine c_cond rfl (fun hb => ?_) (fun hb => ?_)
  ·have hr19 := hb
   replace hb := of_decide_eq_true hb
   refine c_seq ?_
   refine c_ops ?_
   refine l_val rfl rfl rfl (r_fieldAddr (n := 0) rfl Tryz.underlying46 rfl Tryz.sizeOf26 rfl) ?_
   refine l_val rfl rfl rfl (r_load_blk rfl Tryz.isAgg26 rfl (hL.get 0 rfl) rfl) ?_
   refine mv' rfl rfl rfl rfl ?_
   refine l_val rfl rfl rfl (r_indexAddr_sl rfl Tryz.underlying26 Tryz.sizeOf3 rfl hsl.is rfl (by omega) (by omega)) ?_
   refine l_val rfl rfl rfl (r_load (v := .int .i64 (iat s.l k)) rfl Tryz.isAgg3 rfl ((hsl.keep RInt.kept (Ext0.cells hE)).int k (by omega) (by omega))) ?_
   refine as' rfl rfl rfl rfl ?_
   refine l_nil ?_
   refine c_ret ?_
   exact ⟨ret_int rfl (fieldF_some (by rw [hfind, idx_step hklt, if_pos hb.symm])).symm, hE⟩
  ·have hr19 := hb
   replace hb := of_decide_eq_false hb
   refine c_skip ?_
   refine c_ops ?_
   refine mv' rfl rfl rfl rfl ?_
   refine l_val rfl rfl rfl (r_add rfl rfl rfl) ?_
   refine as' rfl rfl rfl rfl ?_
   refine l_nil ?_
   refine ag' ?_
   exact ⟨s.keys.length - (k + 1), by omega, k + 1, by omega, rfl, by show Value.int .i64 (IntKind.i64.wrap ((k : Int) + 1)) = _; rw [wrap_succ hklt hsk.max], by rw [hfind, idx_step hklt, if_neg (fun e => hb e.symm)], hL, hE⟩
 ·have hr10 := hb
  replace hb := of_decide_eq_false hb
  refine c_exit ?_
  refine c_seq ?_
  refine c_ops ?_
  refine as' rfl rfl rfl rfl ?_
  refine l_nil ?_
  refine c_ret ?_
  exact ⟨ret_int rfl (by unfold fieldF; rw [hfind, findS_end _ _ _ _ (by omega)]; rfl), hE⟩
structure Grid (w : World) (xb : Nat) (Ag : Option Addr) (n cg : Nat) (st : Bool) (Ai : Option Addr) (ci : Nat) (X : Int × Int → Bool) : Prop where
 c0 : w.cell? ⟨xb, 0, none⟩ = some (.slice Ag n cg)
 c1 : w.cell? ⟨xb, 1, none⟩ = some (.bool st)
 c2 : w.cell? ⟨xb, 2, none⟩ = some (.slice Ai n ci)
 is : 0 < n → Ai.isSome = true
 row : ∀ a : Int, 0 ≤ a → a < n → ∃ Ar cr, w.cell? ((adr Ai).add (a.toNat * 1)) = some (.slice Ar n cr) ∧ (0 < n → Ar.isSome = true) ∧ ∀ b : Int, 0 ≤ b → b < n → w.cell? ((adr Ar).add (b.toNat * 1)) = some (.bool (X (a, b)))
theorem Grid.keep {w W : World} {xb : Nat} {Ag : Option Addr} {n cg : Nat} {st : Bool} {Ai : Option Addr} {ci : Nat} {X : Int × Int → Bool} (h : Grid w xb Ag n cg st Ai ci X) (hc : Cells w W) : Grid W xb Ag n cg st Ai ci X :=
 ⟨hc _ _ h.c0, hc _ _ h.c1, hc _ _ h.c2, h.is, fun a h0 h1 => let ⟨Ar, cr, h2, h3, h4⟩ := h.row a h0 h1; ⟨Ar, cr, hc _ _ h2, h3, fun b hb0 hb1 => hc _ _ (h4 b hb0 hb1)⟩⟩
theorem recX_step (X : Int × Int → Bool) (s : GNode) {ks : List ByteArray} {l : List Int} {k : Nat} {key : ByteArray} {x : Int} (h1 : ks[k]? = some key) (h2 : l[k]? = some x) : recX X s ((ks.zip l).drop k) = if idxV (idxS s.keys key) < 0 then false else X (iat s.l (idxV (idxS s.keys key)), x) && recX X s ((ks.zip l).drop (k + 1)) := by
 rw [zip_at h1 h2, recX]
theorem fieldF_neg {g : List GNode} {s : GNode} (hs : SideOk g s) (hlen : s.l.length = s.keys.length) {key : ByteArray} (h : fieldF s key < 0) : idxV (idxS s.keys key) < 0 := by
 unfold fieldF at h
 split at h
 ·assumption
 ·rename_i h0
  have hlt := idxS_lt s.keys key
  have hin := hs.inn (iat s.l (idxV (idxS s.keys key))) (by
   have := iat_nat (l := s.l) (k := (idxV (idxS s.keys key)).toNat) (by omega)
   rw [Int.toNat_of_nonneg (by omega)] at this
   exact List.mem_of_getElem? this)
  omega
theorem fieldF_pos {g : List GNode} {s : GNode} (hs : SideOk g s) (hlen : s.l.length = s.keys.length) {key : ByteArray} (h : ¬ fieldF s key < 0) : ¬ idxV (idxS s.keys key) < 0 ∧ fieldF s key = iat s.l (idxV (idxS s.keys key)) ∧ 0 ≤ fieldF s key ∧ fieldF s key < g.length := by
 by_cases h0 : idxV (idxS s.keys key) < 0
 ·exact absurd (by unfold fieldF; rw [if_pos h0]; decide) h
 ·have e : fieldF s key = iat s.l (idxV (idxS s.keys key)) := by unfold fieldF; rw [if_neg h0]
  have hlt := idxS_lt s.keys key
  have hin := hs.inn (iat s.l (idxV (idxS s.keys key))) (by
   have := iat_nat (l := s.l) (k := (idxV (idxS s.keys key)).toNat) (by omega)
   rw [Int.toNat_of_nonneg (by omega)] at this
   exact List.mem_of_getElem? this)
  exact ⟨h0, e, by omega, by omega⟩
section
variable {g : List GNode} {xb : Nat} {Ag : Option Addr} {cg : Nat} {st : Bool} {Ai : Option Addr} {ci : Nat} {X : Int × Int → Bool}
theorem records_rcalls (w0 : World) (hG : Grid w0 xb Ag g.length cg st Ai ci X) (s : GNode) (Ak : Option Addr) (ck : Nat) (Al : Option Addr) (cl : Nat) (hsk : Strs w0 Ak ck s.keys) (hsl : Ints w0 Al cl s.l) (t : GNode) (Bk : Option Addr) (dk : Nat) (Bl : Option Addr) (dl : Nat) (htk : Strs w0 Bk dk t.keys) (htl : Ints w0 Bl dl t.l) (hs : SideOk g s) (ht : SideOk g t) (hs1 : s.l.length = s.keys.length) (ht1 : t.l.length = t.keys.length) :
    Calls Tryz.prog 114 [.pointer (some ⟨xb, 0, none⟩), .agg (nodeCells s Ak ck Al cl).toArray, .agg (nodeCells t Bk dk Bl dl).toArray].toArray w0 fun en w' => en = .returned (.bool (recX X s (t.keys.zip t.l))) ∧ Ext0 w0 w' := by
 have hE : Ext0 w0 w0 := Ext.refl _ _
 have hL : Has w0 [] := trivial
 refine calls [6] Tryz.func114 rfl rfl rfl rfl ?_
 refine c_seq ?_
 refine c_ops ?_
 refine l_new rfl rfl rfl (n_box rfl hL hE) ?_
 rintro _ w ⟨b4, rfl, hb4, hL, hE, hX⟩
 refine l_new rfl rfl rfl (n_box rfl hL hE) ?_
 rintro _ w ⟨b5, rfl, hb5, hL, hE, hX⟩
 refine as' rfl rfl rfl rfl ?_
 refine l_nil ?_
 refine c_seq ?_
 refine c_seq ?_
 refine c_ops ?_
 refine as' rfl rfl rfl rfl ?_
 refine l_nil ?_
 refine c_block ?_
 refine c_loop0 (fun m1 e w => (e 0 = .pointer (some ⟨xb, 0, none⟩) ∧ e 4 = .pointer (some ⟨b4, 0, none⟩) ∧ e 5 = .pointer (some ⟨b5, 0, none⟩)) ∧ ∃ (k : Nat), k ≤ t.keys.length ∧ m1 = t.keys.length - k ∧ e 7 = .int .i64 (k : Nat) ∧ recX X s (t.keys.zip t.l) = recX X s ((t.keys.zip t.l).drop k) ∧ Has w [.blk b5 (.cells (nodeCells t Bk dk Bl dl).toArray 46 (0, 0)), .blk b4 (.cells (nodeCells s Ak ck Al cl).toArray 46 (0, 0))] ∧ Ext0 w0 w) (t.keys.length) ?_ ?_
 ·exact ⟨⟨rfl, rfl, rfl⟩, 0, Nat.zero_le _, rfl, rfl, rfl, hL, hE⟩
 rintro m1 e w ⟨⟨hq0, hq4, hq5⟩, hI⟩
 refine c_know (t := 0) (by exact hq0) ?_
 refine c_know (t := 4) (by exact hq4) ?_
 refine c_know (t := 5) (by exact hq5) ?_
 clear hq0 hq4 hq5
 obtain ⟨k, hkl, hkm, h7s, hrec, hL, hE⟩ := hI
 refine c_know (t := 7) (by exact h7s) ?_
 refine c_seq ?_
 refine c_seq ?_
 refine c_ops ?_
 refine mv' rfl rfl rfl rfl ?_
 refine l_val rfl rfl rfl (r_fieldAddr (n := 0) rfl Tryz.underlying46 rfl Tryz.sizeOf44 rfl) ?_
 refine l_val rfl rfl rfl (r_load_blk rfl Tryz.isAgg44 rfl (hL.get 0 rfl) rfl) ?_
 refine l_val rfl rfl rfl (r_len rfl Tryz.underlying44 rfl) ?_
 refine l_val rfl rfl rfl (r_lss rfl rfl rfl) ?_
 refine l_nil ?_
 refine c_cond rfl (fun hb => ?_) (fun hb => ?_)
 ·have hr13 := hb
  replace hb := of_decide_eq_true hb
  have hklt : k < t.keys.length := by omega
  obtain ⟨key, hkey⟩ : ∃ key, key = kat t.keys k := ⟨_, rfl⟩
  have hstep := recX_step X s (hkey ▸ kat_some hklt) (iat_nat (show k < t.l.length by omega))
  have htin := ht.inn _ (List.mem_of_getElem? (iat_nat (show k < t.l.length by omega)))
  refine c_skip ?_
  refine c_seq ?_
  refine c_block ?_
  refine c_seq ?_
  refine c_draw mixed (hL) hE ?_
  replace hL := hL.drew
  replace hE := hE.drew
  have hK := hL
  refine h_t 0 rfl rfl (by kernel_rfl) (fun _ _ _ h => h) ⟨hK, hE⟩ rfl (fun W hW => r_load_blk_agg rfl Tryz.isAgg46 Tryz.sizeOf46 rfl (hW.1.get 1 rfl) rfl) ?_
  refine h_t 1 rfl rfl (by kernel_rfl) (fun _ _ _ h => h) ⟨hK, hE⟩ rfl (fun W hW => r_fieldAddr (n := 0) rfl Tryz.underlying46 rfl Tryz.sizeOf44 rfl) ?_
  refine h_t 2 rfl rfl (by kernel_rfl) (fun _ _ _ h => h) ⟨hK, hE⟩ rfl (fun W hW => r_load_blk rfl Tryz.isAgg44 rfl (hW.1.get 0 rfl) rfl) ?_
  refine h_t 3 rfl rfl (by kernel_rfl) (fun _ _ _ h => h) ⟨hK, hE⟩ rfl (fun W hW => r_move rfl) ?_
  refine h_t 4 rfl rfl (by kernel_rfl) (fun _ _ _ h => h) ⟨hK, hE⟩ rfl (fun W hW => r_indexAddr_sl rfl Tryz.underlying44 Tryz.sizeOf9 rfl htk.is rfl (by omega) (by omega)) ?_
  refine h_t 5 rfl rfl (by kernel_rfl) (fun _ _ _ h => h) ⟨hK, hE⟩ rfl (fun W hW => r_load (v := .string key) rfl Tryz.isAgg9 rfl (by rw [hkey]; exact (htk.keep RStr.kept (Ext0.cells hW.2)).str k (by omega) (by omega))) ?_
  refine h_by 6 rfl rfl (by kernel_rfl) rfl (r_call rfl rfl Tryz.func120 rfl rfl) (field_rcalls _ s Ak ck Al cl (hsk.keep RStr.kept (Ext0.cells hE)) (hsl.keep RInt.kept (Ext0.cells hE)) hs1 key) ?_
  rintro _ w ⟨rfl, hX⟩
  replace hL := hL.ext0 hX
  replace hE := hE.step0 hX
  have hK := hL
  refine ⟨_, rfl, ⟨hK, hE⟩, ?_⟩
  refine h_t 7 rfl rfl (by kernel_rfl) (fun _ _ _ h => h) ⟨hK, hE⟩ rfl (fun W hW => r_assign rfl) ?_
  refine h_done (by kernel_rfl) ?_
  refine c_seq ?_
  refine c_draw mixed (hL) hE ?_
  replace hL := hL.drew
  replace hE := hE.drew
  have hK := hL
  refine h_t 0 rfl rfl (by kernel_rfl) (fun _ _ _ h => h) ⟨hK, hE⟩ rfl (fun W hW => r_move rfl) ?_
  refine h_listed (listed' := #[T',F',F',F',F',F',F',F',F',F',F',F',F',F',F',F',F',F',F']) (by kernel_rfl) ?_
  refine h_t 1 rfl rfl (by kernel_rfl) (fun _ _ _ h => h) ⟨hK, hE⟩ rfl (fun W hW => r_lss rfl rfl rfl) ?_
  refine h_listed (listed' := #[T',T',F',F',F',F',F',F',F',F',F',F',F',F',F',F',F',F',F']) (by kernel_rfl) ?_
  refine h_t 2 rfl rfl (by kernel_rfl) (fun _ _ _ h => h) ⟨hK, hE⟩ rfl (fun W hW => r_move rfl) ?_
  refine h_listed (listed' := #[T',T',T',F',F',F',F',F',F',F',F',F',F',F',F',F',F',F',F']) (by kernel_rfl) ?_
  refine h_case 25 rfl (fun hb => ?_) (fun hb => ?_)
  ·have hr25 := hb
   replace hb := of_decide_eq_true hb
   have hno : recX X s (t.keys.zip t.l) = false := by rw [hrec, hstep, if_pos (fieldF_neg hs hs1 hb)]
   refine h_listed (listed' := #[T',T',T',F',F',F',F',F',F',F',F',F',F',F',F',F',F',F',F']) (by kernel_rfl) ?_
   refine h_n 3 rfl rfl (by kernel_rfl) (fun _ _ _ h => h) ⟨hK, hE⟩ rfl ?_
   refine h_listed (listed' := #[T',T',T',T',F',F',F',F',F',F',F',F',F',F',F',F',F',F',F']) (by kernel_rfl) ?_
   refine h_n 4 rfl rfl (by kernel_rfl) (fun _ _ _ h => h) ⟨hK, hE⟩ rfl ?_
   refine h_listed (listed' := #[T',T',T',T',T',F',F',F',F',F',F',F',F',F',F',F',F',F',F']) (by kernel_rfl) ?_
   refine h_n 5 rfl rfl (by kernel_rfl) (fun _ _ _ h => h) ⟨hK, hE⟩ rfl ?_
   refine h_listed (listed' := #[T',T',T',T',T',T',F',F',F',F',F',F',F',F',F',F',F',F',F']) (by kernel_rfl) ?_
   refine h_n 6 rfl rfl (by kernel_rfl) (fun _ _ _ h => h) ⟨hK, hE⟩ rfl ?_
   refine h_listed (listed' := #[T',T',T',T',T',T',T',F',F',F',F',F',F',F',F',F',F',F',F']) (by kernel_rfl) ?_
   refine h_n 7 rfl rfl (by kernel_rfl) (fun _ _ _ h => h) ⟨hK, hE⟩ rfl ?_
   refine h_listed (listed' := #[T',T',T',T',T',T',T',T',F',F',F',F',F',F',F',F',F',F',F']) (by kernel_rfl) ?_
   refine h_n 8 rfl rfl (by kernel_rfl) (fun _ _ _ h => h) ⟨hK, hE⟩ rfl ?_
   refine h_listed (listed' := #[T',T',T',T',T',T',T',T',T',F',F',F',F',F',F',F',F',F',F']) (by kernel_rfl) ?_
   refine h_n 9 rfl rfl (by kernel_rfl) (fun _ _ _ h => h) ⟨hK, hE⟩ rfl ?_
   refine h_listed (listed' := #[T',T',T',T',T',T',T',T',T',T',F',F',F',F',F',F',F',F',F']) (by kernel_rfl) ?_
   refine h_n 10 rfl rfl (by kernel_rfl) (fun _ _ _ h => h) ⟨hK, hE⟩ rfl ?_
   refine h_listed (listed' := #[T',T',T',T',T',T',T',T',T',T',T',F',F',F',F',F',F',F',F']) (by kernel_rfl) ?_
   refine h_n 11 rfl rfl (by kernel_rfl) (fun _ _ _ h => h) ⟨hK, hE⟩ rfl ?_
   refine h_listed (listed' := #[T',T',T',T',T',T',T',T',T',T',T',T',F',F',F',F',F',F',F']) (by kernel_rfl) ?_
   refine h_n 12 rfl rfl (by kernel_rfl) (fun _ _ _ h => h) ⟨hK, hE⟩ rfl ?_
   refine h_listed (listed' := #[T',T',T',T',T',T',T',T',T',T',T',T',T',F',F',F',F',F',F']) (by kernel_rfl) ?_
   refine h_n 13 rfl rfl (by kernel_rfl) (fun _ _ _ h => h) ⟨hK, hE⟩ rfl ?_
   refine h_listed (listed' := #[T',T',T',T',T',T',T',T',T',T',T',T',T',T',F',F',F',F',F']) (by kernel_rfl) ?_
   refine h_n 14 rfl rfl (by kernel_rfl) (fun _ _ _ h => h) ⟨hK, hE⟩ rfl ?_
   refine h_listed (listed' := #[T',T',T',T',T',T',T',T',T',T',T',T',T',T',T',F',F',F',F']) (by kernel_rfl) ?_
   refine h_n 15 rfl rfl (by kernel_rfl) (fun _ _ _ h => h) ⟨hK, hE⟩ rfl ?_
   refine h_listed (listed' := #[T',T',T',T',T',T',T',T',T',T',T',T',T',T',T',T',F',F',F']) (by kernel_rfl) ?_
   refine h_n 16 rfl rfl (by kernel_rfl) (fun _ _ _ h => h) ⟨hK, hE⟩ rfl ?_
   refine h_listed (listed' := #[T',T',T',T',T',T',T',T',T',T',T',T',T',T',T',T',T',F',F']) (by kernel_rfl) ?_
   refine h_n 17 rfl rfl (by kernel_rfl) (fun _ _ _ h => h) ⟨hK, hE⟩ rfl ?_
   refine h_listed (listed' := #[T',T',T',T',T',T',T',T',T',T',T',T',T',T',T',T',T',T',F']) (by kernel_rfl) ?_
   refine h_t 18 rfl rfl (by kernel_rfl) (fun _ _ _ h => h) ⟨hK, hE⟩ rfl (fun W hW => r_pick rfl rfl) ?_
   refine h_listed (listed' := #[T',T',T',T',T',T',T',T',T',T',T',T',T',T',T',T',T',T',T']) (by kernel_rfl) ?_
   refine h_done (by kernel_rfl) ?_
   refine c_yes rfl ?_
   refine c_seq ?_
   refine c_ops ?_
   refine as' rfl rfl rfl rfl ?_
   refine l_nil ?_
   refine c_ret ?_
   exact ⟨ret_bool rfl hno.symm, hE⟩
  ·have hr25 := hb
   replace hb := of_decide_eq_false hb
   have hf := fieldF_pos hs hs1 hb
   obtain ⟨Ar, cr, hr0, hr1, hr2⟩ := hG.row (fieldF s key) hf.2.2.1 hf.2.2.2
   refine h_listed (listed' := #[T',T',T',F',F',F',F',F',F',F',F',F',F',F',F',F',F',F',F']) (by kernel_rfl) ?_
   refine h_t 3 rfl rfl (by kernel_rfl) (fun _ _ _ h => h) ⟨hK, hE⟩ rfl (fun W hW => r_move rfl) ?_
   refine h_listed (listed' := #[T',T',T',T',F',F',F',F',F',F',F',F',F',F',F',F',F',F',F']) (by kernel_rfl) ?_
   refine h_t 4 rfl rfl (by kernel_rfl) (fun _ _ _ h => h) ⟨hK, hE⟩ rfl (fun W hW => r_nilCheck rfl rfl) ?_
   refine h_listed (listed' := #[T',T',T',T',T',F',F',F',F',F',F',F',F',F',F',F',F',F',F']) (by kernel_rfl) ?_
   refine h_t 5 rfl rfl (by kernel_rfl) (fun _ _ _ h => h) ⟨hK, hE⟩ rfl (fun W hW => r_fieldAddr (n := 0) rfl Tryz.underlying65 rfl Tryz.sizeOf63 rfl) ?_
   refine h_listed (listed' := #[T',T',T',T',T',T',F',F',F',F',F',F',F',F',F',F',F',F',F']) (by kernel_rfl) ?_
   refine h_t 6 rfl rfl (by kernel_rfl) (fun _ _ _ h => h) ⟨hK, hE⟩ rfl (fun W hW => r_load rfl Tryz.isAgg63 rfl (Ext0.cells hW.2 _ _ hG.c2)) ?_
   refine h_listed (listed' := #[T',T',T',T',T',T',T',F',F',F',F',F',F',F',F',F',F',F',F']) (by kernel_rfl) ?_
   refine h_t 7 rfl rfl (by kernel_rfl) (fun _ _ _ h => h) ⟨hK, hE⟩ rfl (fun W hW => r_move rfl) ?_
   refine h_listed (listed' := #[T',T',T',T',T',T',T',T',F',F',F',F',F',F',F',F',F',F',F']) (by kernel_rfl) ?_
   refine h_t 8 rfl rfl (by kernel_rfl) (fun _ _ _ h => h) ⟨hK, hE⟩ rfl (fun W hW => r_indexAddr_sl rfl Tryz.underlying63 Tryz.sizeOf62 rfl hG.is rfl hf.2.2.1 hf.2.2.2) ?_
   refine h_listed (listed' := #[T',T',T',T',T',T',T',T',T',F',F',F',F',F',F',F',F',F',F']) (by kernel_rfl) ?_
   refine h_t 9 rfl rfl (by kernel_rfl) (fun _ _ _ h => h) ⟨hK, hE⟩ rfl (fun W hW => r_load (v := .slice Ar g.length cr) rfl Tryz.isAgg62 rfl (Ext0.cells hW.2 _ _ hr0)) ?_
   refine h_listed (listed' := #[T',T',T',T',T',T',T',T',T',T',F',F',F',F',F',F',F',F',F']) (by kernel_rfl) ?_
   refine h_t 10 rfl rfl (by kernel_rfl) (fun _ _ _ h => h) ⟨hK, hE⟩ rfl (fun W hW => r_fieldAddr (n := 0) rfl Tryz.underlying46 rfl Tryz.sizeOf26 rfl) ?_
   refine h_listed (listed' := #[T',T',T',T',T',T',T',T',T',T',T',F',F',F',F',F',F',F',F']) (by kernel_rfl) ?_
   refine h_t 11 rfl rfl (by kernel_rfl) (fun _ _ _ h => h) ⟨hK, hE⟩ rfl (fun W hW => r_load_blk rfl Tryz.isAgg26 rfl (hW.1.get 0 rfl) rfl) ?_
   refine h_listed (listed' := #[T',T',T',T',T',T',T',T',T',T',T',T',F',F',F',F',F',F',F']) (by kernel_rfl) ?_
   refine h_t 12 rfl rfl (by kernel_rfl) (fun _ _ _ h => h) ⟨hK, hE⟩ rfl (fun W hW => r_move rfl) ?_
   refine h_listed (listed' := #[T',T',T',T',T',T',T',T',T',T',T',T',T',F',F',F',F',F',F']) (by kernel_rfl) ?_
   refine h_t 13 rfl rfl (by kernel_rfl) (fun _ _ _ h => h) ⟨hK, hE⟩ rfl (fun W hW => r_indexAddr_sl rfl Tryz.underlying26 Tryz.sizeOf3 rfl htl.is rfl (by omega) (by omega)) ?_
   refine h_listed (listed' := #[T',T',T',T',T',T',T',T',T',T',T',T',T',T',F',F',F',F',F']) (by kernel_rfl) ?_
   refine h_t 14 rfl rfl (by kernel_rfl) (fun _ _ _ h => h) ⟨hK, hE⟩ rfl (fun W hW => r_load (v := .int .i64 (iat t.l k)) rfl Tryz.isAgg3 rfl ((htl.keep RInt.kept (Ext0.cells hW.2)).int k (by omega) (by omega))) ?_
   refine h_listed (listed' := #[T',T',T',T',T',T',T',T',T',T',T',T',T',T',T',F',F',F',F']) (by kernel_rfl) ?_
   refine h_t 15 rfl rfl (by kernel_rfl) (fun _ _ _ h => h) ⟨hK, hE⟩ rfl (fun W hW => r_indexAddr_sl rfl Tryz.underlying62 Tryz.sizeOf4 rfl hr1 rfl htin.1 htin.2) ?_
   refine h_listed (listed' := #[T',T',T',T',T',T',T',T',T',T',T',T',T',T',T',T',F',F',F']) (by kernel_rfl) ?_
   refine h_t 16 rfl rfl (by kernel_rfl) (fun _ _ _ h => h) ⟨hK, hE⟩ rfl (fun W hW => r_load (v := .bool (X ((fieldF s key), (iat t.l k)))) rfl Tryz.isAgg4 rfl (Ext0.cells hW.2 _ _ (hr2 (iat t.l k) htin.1 htin.2))) ?_
   refine h_listed (listed' := #[T',T',T',T',T',T',T',T',T',T',T',T',T',T',T',T',T',F',F']) (by kernel_rfl) ?_
   refine h_t 17 rfl rfl (by kernel_rfl) (fun _ _ _ h => h) ⟨hK, hE⟩ rfl (fun W hW => r_not rfl rfl) ?_
   refine h_listed (listed' := #[T',T',T',T',T',T',T',T',T',T',T',T',T',T',T',T',T',T',F']) (by kernel_rfl) ?_
   refine h_t 18 rfl rfl (by kernel_rfl) (fun _ _ _ h => h) ⟨hK, hE⟩ rfl (fun W hW => r_pick rfl rfl) ?_
   refine h_listed (listed' := #[T',T',T',T',T',T',T',T',T',T',T',T',T',T',T',T',T',T',T']) (by kernel_rfl) ?_
   refine h_done (by kernel_rfl) ?_
   refine c_cond rfl (fun hb => ?_) (fun hb => ?_)
   ·have hr41 := hb
    have hno : recX X s (t.keys.zip t.l) = false := by rw [hrec, hstep, if_neg hf.1, ← hf.2.1]; simp at hb; rw [hb]; rfl
    refine c_seq ?_
    refine c_ops ?_
    refine as' rfl rfl rfl rfl ?_
    refine l_nil ?_
    refine c_ret ?_
    exact ⟨ret_bool rfl hno.symm, hE⟩
   ·have hr41 := hb
    have hrec2 : recX X s (t.keys.zip t.l) = recX X s ((t.keys.zip t.l).drop (k + 1)) := by rw [hrec, hstep, if_neg hf.1, ← hf.2.1]; simp at hb; rw [hb]; rfl
    refine c_skip ?_
    refine c_ops ?_
    refine mv' rfl rfl rfl rfl ?_
    refine l_val rfl rfl rfl (r_add rfl rfl rfl) ?_
    refine as' rfl rfl rfl rfl ?_
    refine l_nil ?_
    exact ⟨t.keys.length - (k + 1), by omega, ⟨rfl, rfl, rfl⟩, k + 1, by omega, rfl, by show Value.int .i64 (IntKind.i64.wrap ((k : Int) + 1)) = _; rw [wrap_succ hklt htk.max], hrec2, hL, hE⟩
 ·have hr13 := hb
  replace hb := of_decide_eq_false hb
  refine c_exit ?_
  refine c_seq ?_
  refine c_ops ?_
  refine as' rfl rfl rfl rfl ?_
  refine l_nil ?_
  refine c_ret ?_
  exact ⟨ret_bool rfl (by rw [hrec, List.drop_eq_nil_of_le (by simp; omega)]; rfl), hE⟩
theorem does_rcalls (w0 : World) (hG : Grid w0 xb Ag g.length cg st Ai ci X) (s : GNode) (Ak : Option Addr) (ck : Nat) (Al : Option Addr) (cl : Nat) (hsk : Strs w0 Ak ck s.keys) (hsl : Ints w0 Al cl s.l) (t : GNode) (Bk : Option Addr) (dk : Nat) (Bl : Option Addr) (dl : Nat) (htk : Strs w0 Bk dk t.keys) (htl : Ints w0 Bl dl t.l) (hs : SideOk g s) (ht : SideOk g t) :
    Calls Tryz.prog 101 [.pointer (some ⟨xb, 0, none⟩), .agg (nodeCells s Ak ck Al cl).toArray, .agg (nodeCells t Bk dk Bl dl).toArray].toArray w0 fun en w' => en = .returned (.bool (doesX st X s t)) ∧ Ext0 w0 w' := by
 have hE : Ext0 w0 w0 := Ext.refl _ _
 have hL : Has w0 [] := trivial
 refine calls [6] Tryz.func101 rfl rfl rfl rfl ?_
 refine c_seq ?_
 refine c_ops ?_
 refine l_new rfl rfl rfl (n_box rfl hL hE) ?_
 rintro _ w ⟨b4, rfl, hb4, hL, hE, hX⟩
 refine l_new rfl rfl rfl (n_box rfl hL hE) ?_
 rintro _ w ⟨b5, rfl, hb5, hL, hE, hX⟩
 refine as' rfl rfl rfl rfl ?_
 refine l_nil ?_
 refine c_seq ?_
 refine c_merge [7, 8, 9, 10, 11, 12, 13, 14] (fun e w => e 14 = .bool (decide (s.kind = 1) || decide (t.kind = 1)) ∧ Has w [.blk b5 (.cells (nodeCells t Bk dk Bl dl).toArray 46 (0, 0)), .blk b4 (.cells (nodeCells s Ak ck Al cl).toArray 46 (0, 0))] ∧ Ext0 w0 w) ?_ ?_
 ·skip
  refine c_ops ?_
  refine l_val rfl rfl rfl (r_fieldAddr (n := 0) rfl Tryz.underlying46 rfl Tryz.sizeOf3 rfl) ?_
  refine l_val rfl rfl rfl (r_load_blk rfl Tryz.isAgg3 rfl (hL.get 1 rfl) rfl) ?_
  refine l_val rfl rfl rfl (r_eql rfl rfl rfl) ?_
  refine mv' rfl rfl rfl rfl ?_
  refine l_case 10 rfl (fun hb => ?_) (fun hb => ?_)
  ·have hr10 := hb
   replace hb := of_decide_eq_true hb
   refine l_not rfl rfl rfl ?_
   refine l_not rfl rfl rfl ?_
   refine l_not rfl rfl rfl ?_
   refine l_val rfl rfl rfl (r_pick rfl rfl) ?_
   refine l_nil ?_
   refine ag' ?_
   exact ⟨congrArg Value.bool (by simp only [hr10, Bool.true_and, Bool.and_true, Bool.false_and, Bool.and_false, Bool.true_or, Bool.or_true, Bool.false_or, Bool.or_false, Bool.not_true, Bool.not_false, cond_true, cond_false]), hL, hE⟩
  ·have hr10 := hb
   replace hb := of_decide_eq_false hb
   refine l_val rfl rfl rfl (r_fieldAddr (n := 0) rfl Tryz.underlying46 rfl Tryz.sizeOf3 rfl) ?_
   refine l_val rfl rfl rfl (r_load_blk rfl Tryz.isAgg3 rfl (hL.get 0 rfl) rfl) ?_
   refine l_val rfl rfl rfl (r_eql rfl rfl rfl) ?_
   refine l_val rfl rfl rfl (r_pick rfl rfl) ?_
   refine l_nil ?_
   refine ag' ?_
   exact ⟨congrArg Value.bool (by simp only [hr10, Bool.true_and, Bool.and_true, Bool.false_and, Bool.and_false, Bool.true_or, Bool.or_true, Bool.false_or, Bool.or_false, Bool.not_true, Bool.not_false, cond_true, cond_false]), hL, hE⟩
 rintro e w hI
 obtain ⟨h14, hL, hE⟩ := hI
 refine c_know h14 ?_
 refine c_cond rfl (fun hb => ?_) (fun hb => ?_)
 ·have hr14 := hb
  have hd : doesX st X s t = (!st || decide (s.kind = t.kind)) := by unfold doesX; rw [if_pos (by simpa using hb)]
  refine c_seq ?_
  refine c_ops ?_
  refine mv' rfl rfl rfl rfl ?_
  refine l_val rfl rfl rfl (r_nilCheck rfl rfl) ?_
  refine l_val rfl rfl rfl (r_fieldAddr (n := 0) rfl Tryz.underlying65 rfl Tryz.sizeOf4 rfl) ?_
  refine l_val rfl rfl rfl (r_load rfl Tryz.isAgg4 rfl (Ext0.cells hE _ _ hG.c1)) ?_
  refine l_val rfl rfl rfl (r_not rfl rfl) ?_
  refine mv' rfl rfl rfl rfl ?_
  refine l_case 20 rfl (fun hb => ?_) (fun hb => ?_)
  ·have hr20 := hb
   have hst : st = false := by simpa using hb
   refine l_not rfl rfl rfl ?_
   refine l_not rfl rfl rfl ?_
   refine l_not rfl rfl rfl ?_
   refine l_not rfl rfl rfl ?_
   refine l_not rfl rfl rfl ?_
   refine l_val rfl rfl rfl (r_pick rfl rfl) ?_
   refine as' rfl rfl rfl rfl ?_
   refine l_nil ?_
   refine c_ret ?_
   exact ⟨ret_bool rfl (by rw [hd, hst]; rfl), hE⟩
  ·have hr20 := hb
   have hst : st = true := by simpa using hb
   refine l_val rfl rfl rfl (r_fieldAddr (n := 0) rfl Tryz.underlying46 rfl Tryz.sizeOf3 rfl) ?_
   refine l_val rfl rfl rfl (r_load_blk rfl Tryz.isAgg3 rfl (hL.get 1 rfl) rfl) ?_
   refine l_val rfl rfl rfl (r_fieldAddr (n := 0) rfl Tryz.underlying46 rfl Tryz.sizeOf3 rfl) ?_
   refine l_val rfl rfl rfl (r_load_blk rfl Tryz.isAgg3 rfl (hL.get 0 rfl) rfl) ?_
   refine l_val rfl rfl rfl (r_eql rfl rfl rfl) ?_
   refine l_val rfl rfl rfl (r_pick rfl rfl) ?_
   refine as' rfl rfl rfl rfl ?_
   refine l_nil ?_
   refine c_ret ?_
   exact ⟨ret_bool rfl (by rw [hd, hst]; rfl), hE⟩
 ·have hr14 := hb
  have h11 : ¬ (s.kind = 1 ∨ t.kind = 1) := by simpa using hb
  refine c_skip ?_
  refine c_seq ?_
  refine c_seq ?_
  refine c_ops ?_
  refine l_val rfl rfl rfl (r_fieldAddr (n := 0) rfl Tryz.underlying46 rfl Tryz.sizeOf3 rfl) ?_
  refine l_val rfl rfl rfl (r_load_blk rfl Tryz.isAgg3 rfl (hL.get 1 rfl) rfl) ?_
  refine l_val rfl rfl rfl (r_fieldAddr (n := 0) rfl Tryz.underlying46 rfl Tryz.sizeOf3 rfl) ?_
  refine l_val rfl rfl rfl (r_load_blk rfl Tryz.isAgg3 rfl (hL.get 0 rfl) rfl) ?_
  refine l_val rfl rfl rfl (r_neq rfl rfl rfl) ?_
  refine l_nil ?_
  refine c_cond rfl (fun hb => ?_) (fun hb => ?_)
  ·have hr31 := hb
   replace hb := of_decide_eq_false (by simpa using hb)
   have hd : doesX st X s t = false := by unfold doesX; rw [if_neg h11, if_neg hb]
   refine c_seq ?_
   refine c_ops ?_
   refine as' rfl rfl rfl rfl ?_
   refine l_nil ?_
   refine c_ret ?_
   exact ⟨ret_bool rfl hd.symm, hE⟩
  ·have hr31 := hb
   replace hb := of_decide_eq_true (by simpa using hb)
   have hkk : s.kind = t.kind := hb
   have hd : doesX st X s t = ruleX X s t := by unfold doesX; rw [if_neg h11, if_pos hkk]
   refine c_skip ?_
   refine c_seq ?_
   refine c_seq ?_
   refine c_ops ?_
   refine l_val rfl rfl rfl (r_fieldAddr (n := 0) rfl Tryz.underlying46 rfl Tryz.sizeOf3 rfl) ?_
   refine l_val rfl rfl rfl (r_load_blk rfl Tryz.isAgg3 rfl (hL.get 1 rfl) rfl) ?_
   refine l_nil ?_
   refine c_block ?_
   refine c_merge [34, 35, 36, 37] (fun e w => e 34 = .bool (decide (s.kind = 2 ∨ s.kind = 3 ∨ s.kind = 4)) ∧ Has w [.blk b5 (.cells (nodeCells t Bk dk Bl dl).toArray 46 (0, 0)), .blk b4 (.cells (nodeCells s Ak ck Al cl).toArray 46 (0, 0))] ∧ Ext0 w0 w) ?_ ?_
   ·refine c_seq ?_
    refine c_ops ?_
    refine l_val rfl rfl rfl (r_eql rfl rfl rfl) ?_
    refine as' rfl rfl rfl rfl ?_
    refine l_nil ?_
    refine c_cond rfl (fun hb => ?_) (fun hb => ?_)
    ·have hr34 := hb
     replace hb := of_decide_eq_true hb
     refine c_skip ?_
     refine ag' ?_
     exact ⟨congrArg Value.bool (by simp_all), hL, hE⟩
    ·have hr34 := hb
     replace hb := of_decide_eq_false hb
     refine c_seq ?_
     refine c_ops ?_
     refine l_val rfl rfl rfl (r_eql rfl rfl rfl) ?_
     refine as' rfl rfl rfl rfl ?_
     refine l_nil ?_
     refine c_cond rfl (fun hb => ?_) (fun hb => ?_)
     ·have hr34' := hb
      replace hb := of_decide_eq_true hb
      refine c_skip ?_
      refine ag' ?_
      exact ⟨congrArg Value.bool (by simp_all), hL, hE⟩
     ·have hr34' := hb
      replace hb := of_decide_eq_false hb
      refine c_ops ?_
      refine l_val rfl rfl rfl (r_eql rfl rfl rfl) ?_
      refine as' rfl rfl rfl rfl ?_
      refine l_nil ?_
      refine ag' ?_
      exact ⟨congrArg Value.bool (by simp_all), hL, hE⟩
   rintro e w hI
   obtain ⟨h34, hL, hE⟩ := hI
   refine c_know h34 ?_
   refine c_cond rfl (fun hb => ?_) (fun hb => ?_)
   ·have hr34 := hb
    have h234 : s.kind = 2 ∨ s.kind = 3 ∨ s.kind = 4 := by simpa using hb
    have hd2 : doesX st X s t = true := by rw [hd]; unfold ruleX; rw [if_neg (by omega), if_neg (by omega), if_neg (by omega)]
    refine c_seq ?_
    refine c_ops ?_
    refine as' rfl rfl rfl rfl ?_
    refine l_nil ?_
    refine c_ret ?_
    exact ⟨ret_bool rfl hd2.symm, hE⟩
   ·have hr34 := hb
    have h234 : ¬ (s.kind = 2 ∨ s.kind = 3 ∨ s.kind = 4) := by simpa using hb
    refine c_seq ?_
    refine c_ops ?_
    refine l_val rfl rfl rfl (r_eql rfl rfl rfl) ?_
    refine as' rfl rfl rfl rfl ?_
    refine l_nil ?_
    refine c_cond rfl (fun hb => ?_) (fun hb => ?_)
    ·have hr38 := hb
     replace hb := of_decide_eq_true hb
     have hd2 : doesX st X s t = decide (s.name = t.name) := by rw [hd]; unfold ruleX; rw [if_pos hb]
     refine c_seq ?_
     refine c_ops ?_
     refine l_val rfl rfl rfl (r_fieldAddr (n := 0) rfl Tryz.underlying46 rfl Tryz.sizeOf9 rfl) ?_
     refine l_val rfl rfl rfl (r_load_blk rfl Tryz.isAgg9 rfl (hL.get 1 rfl) rfl) ?_
     refine l_val rfl rfl rfl (r_fieldAddr (n := 0) rfl Tryz.underlying46 rfl Tryz.sizeOf9 rfl) ?_
     refine l_val rfl rfl rfl (r_load_blk rfl Tryz.isAgg9 rfl (hL.get 0 rfl) rfl) ?_
     refine l_val rfl rfl rfl (r_seql rfl rfl rfl) ?_
     refine as' rfl rfl rfl rfl ?_
     refine l_nil ?_
     refine c_ret ?_
     exact ⟨ret_bool rfl hd2.symm, hE⟩
    ·have hr38 := hb
     replace hb := of_decide_eq_false hb
     have h5 : ¬ s.kind = 5 := hb
     refine c_seq ?_
     refine c_ops ?_
     refine l_val rfl rfl rfl (r_eql rfl rfl rfl) ?_
     refine as' rfl rfl rfl rfl ?_
     refine l_nil ?_
     refine c_cond rfl (fun hb => ?_) (fun hb => ?_)
     ·have hr45 := hb
      replace hb := of_decide_eq_true hb
      have h9 : s.kind = 9 := hb
      have hs1 := hs.var h9
      have ht1 := ht.var (hkk ▸ h9)
      have hs9 := hs.first h9
      have ht9 := ht.first (hkk ▸ h9)
      obtain ⟨Ar, cr, hr0, hr1, hr2⟩ := hG.row (iat s.l 0) hs9.1 hs9.2
      have hd2 : doesX st X s t = if s.num = t.num then X (iat s.l 0, iat t.l 0) else false := by rw [hd]; unfold ruleX; rw [if_neg h5, if_neg (by omega), if_pos h9]
      refine c_seq ?_
      refine c_draw mixed (hL) hE ?_
      replace hL := hL.drew
      replace hE := hE.drew
      have hK := hL
      refine h_t 0 rfl rfl (by kernel_rfl) (fun _ _ _ h => h) ⟨hK, hE⟩ rfl (fun W hW => r_fieldAddr (n := 0) rfl Tryz.underlying46 rfl Tryz.sizeOf3 rfl) ?_
      refine h_listed (listed' := #[T',F',F',F',F',F',F',F',F',F',F',F',F',F',F',F',F',F',F',F',F',F',F',F']) (by kernel_rfl) ?_
      refine h_t 1 rfl rfl (by kernel_rfl) (fun _ _ _ h => h) ⟨hK, hE⟩ rfl (fun W hW => r_load_blk rfl Tryz.isAgg3 rfl (hW.1.get 1 rfl) rfl) ?_
      refine h_listed (listed' := #[T',T',F',F',F',F',F',F',F',F',F',F',F',F',F',F',F',F',F',F',F',F',F',F']) (by kernel_rfl) ?_
      refine h_t 2 rfl rfl (by kernel_rfl) (fun _ _ _ h => h) ⟨hK, hE⟩ rfl (fun W hW => r_fieldAddr (n := 0) rfl Tryz.underlying46 rfl Tryz.sizeOf3 rfl) ?_
      refine h_listed (listed' := #[T',T',T',F',F',F',F',F',F',F',F',F',F',F',F',F',F',F',F',F',F',F',F',F']) (by kernel_rfl) ?_
      refine h_t 3 rfl rfl (by kernel_rfl) (fun _ _ _ h => h) ⟨hK, hE⟩ rfl (fun W hW => r_load_blk rfl Tryz.isAgg3 rfl (hW.1.get 0 rfl) rfl) ?_
      refine h_listed (listed' := #[T',T',T',T',F',F',F',F',F',F',F',F',F',F',F',F',F',F',F',F',F',F',F',F']) (by kernel_rfl) ?_
      refine h_t 4 rfl rfl (by kernel_rfl) (fun _ _ _ h => h) ⟨hK, hE⟩ rfl (fun W hW => r_eql rfl rfl rfl) ?_
      refine h_listed (listed' := #[T',T',T',T',T',F',F',F',F',F',F',F',F',F',F',F',F',F',F',F',F',F',F',F']) (by kernel_rfl) ?_
      refine h_t 5 rfl rfl (by kernel_rfl) (fun _ _ _ h => h) ⟨hK, hE⟩ rfl (fun W hW => r_move rfl) ?_
      refine h_listed (listed' := #[T',T',T',T',T',T',F',F',F',F',F',F',F',F',F',F',F',F',F',F',F',F',F',F']) (by kernel_rfl) ?_
      refine h_case 52 rfl (fun hb => ?_) (fun hb => ?_)
      ·have hr52 := hb
       replace hb := of_decide_eq_true hb
       rw [if_pos hb] at hd2
       refine h_listed (listed' := #[T',T',T',T',T',T',F',F',F',F',F',F',F',F',F',F',F',F',F',F',F',F',F',F']) (by kernel_rfl) ?_
       refine h_t 6 rfl rfl (by kernel_rfl) (fun _ _ _ h => h) ⟨hK, hE⟩ rfl (fun W hW => r_move rfl) ?_
       refine h_listed (listed' := #[T',T',T',T',T',T',T',F',F',F',F',F',F',F',F',F',F',F',F',F',F',F',F',F']) (by kernel_rfl) ?_
       refine h_t 7 rfl rfl (by kernel_rfl) (fun _ _ _ h => h) ⟨hK, hE⟩ rfl (fun W hW => r_nilCheck rfl rfl) ?_
       refine h_listed (listed' := #[T',T',T',T',T',T',T',T',F',F',F',F',F',F',F',F',F',F',F',F',F',F',F',F']) (by kernel_rfl) ?_
       refine h_t 8 rfl rfl (by kernel_rfl) (fun _ _ _ h => h) ⟨hK, hE⟩ rfl (fun W hW => r_fieldAddr (n := 0) rfl Tryz.underlying65 rfl Tryz.sizeOf63 rfl) ?_
       refine h_listed (listed' := #[T',T',T',T',T',T',T',T',T',F',F',F',F',F',F',F',F',F',F',F',F',F',F',F']) (by kernel_rfl) ?_
       refine h_t 9 rfl rfl (by kernel_rfl) (fun _ _ _ h => h) ⟨hK, hE⟩ rfl (fun W hW => r_load rfl Tryz.isAgg63 rfl (Ext0.cells hW.2 _ _ hG.c2)) ?_
       refine h_listed (listed' := #[T',T',T',T',T',T',T',T',T',T',F',F',F',F',F',F',F',F',F',F',F',F',F',F']) (by kernel_rfl) ?_
       refine h_t 10 rfl rfl (by kernel_rfl) (fun _ _ _ h => h) ⟨hK, hE⟩ rfl (fun W hW => r_fieldAddr (n := 0) rfl Tryz.underlying46 rfl Tryz.sizeOf26 rfl) ?_
       refine h_listed (listed' := #[T',T',T',T',T',T',T',T',T',T',T',F',F',F',F',F',F',F',F',F',F',F',F',F']) (by kernel_rfl) ?_
       refine h_t 11 rfl rfl (by kernel_rfl) (fun _ _ _ h => h) ⟨hK, hE⟩ rfl (fun W hW => r_load_blk rfl Tryz.isAgg26 rfl (hW.1.get 1 rfl) rfl) ?_
       refine h_listed (listed' := #[T',T',T',T',T',T',T',T',T',T',T',T',F',F',F',F',F',F',F',F',F',F',F',F']) (by kernel_rfl) ?_
       refine h_t 12 rfl rfl (by kernel_rfl) (fun _ _ _ h => h) ⟨hK, hE⟩ rfl (fun W hW => r_indexAddr_sl rfl Tryz.underlying26 Tryz.sizeOf3 rfl hsl.is rfl (by decide) (by omega)) ?_
       refine h_listed (listed' := #[T',T',T',T',T',T',T',T',T',T',T',T',T',F',F',F',F',F',F',F',F',F',F',F']) (by kernel_rfl) ?_
       refine h_t 13 rfl rfl (by kernel_rfl) (fun _ _ _ h => h) ⟨hK, hE⟩ rfl (fun W hW => r_load (v := .int .i64 (iat s.l 0)) rfl Tryz.isAgg3 rfl ((hsl.keep RInt.kept (Ext0.cells hW.2)).int 0 (by decide) (by omega))) ?_
       refine h_listed (listed' := #[T',T',T',T',T',T',T',T',T',T',T',T',T',T',F',F',F',F',F',F',F',F',F',F']) (by kernel_rfl) ?_
       refine h_t 14 rfl rfl (by kernel_rfl) (fun _ _ _ h => h) ⟨hK, hE⟩ rfl (fun W hW => r_indexAddr_sl rfl Tryz.underlying63 Tryz.sizeOf62 rfl hG.is rfl hs9.1 hs9.2) ?_
       refine h_listed (listed' := #[T',T',T',T',T',T',T',T',T',T',T',T',T',T',T',F',F',F',F',F',F',F',F',F']) (by kernel_rfl) ?_
       refine h_t 15 rfl rfl (by kernel_rfl) (fun _ _ _ h => h) ⟨hK, hE⟩ rfl (fun W hW => r_load (v := .slice Ar g.length cr) rfl Tryz.isAgg62 rfl (Ext0.cells hW.2 _ _ hr0)) ?_
       refine h_listed (listed' := #[T',T',T',T',T',T',T',T',T',T',T',T',T',T',T',T',F',F',F',F',F',F',F',F']) (by kernel_rfl) ?_
       refine h_t 16 rfl rfl (by kernel_rfl) (fun _ _ _ h => h) ⟨hK, hE⟩ rfl (fun W hW => r_fieldAddr (n := 0) rfl Tryz.underlying46 rfl Tryz.sizeOf26 rfl) ?_
       refine h_listed (listed' := #[T',T',T',T',T',T',T',T',T',T',T',T',T',T',T',T',T',F',F',F',F',F',F',F']) (by kernel_rfl) ?_
       refine h_t 17 rfl rfl (by kernel_rfl) (fun _ _ _ h => h) ⟨hK, hE⟩ rfl (fun W hW => r_load_blk rfl Tryz.isAgg26 rfl (hW.1.get 0 rfl) rfl) ?_
       refine h_listed (listed' := #[T',T',T',T',T',T',T',T',T',T',T',T',T',T',T',T',T',T',F',F',F',F',F',F']) (by kernel_rfl) ?_
       refine h_t 18 rfl rfl (by kernel_rfl) (fun _ _ _ h => h) ⟨hK, hE⟩ rfl (fun W hW => r_indexAddr_sl rfl Tryz.underlying26 Tryz.sizeOf3 rfl htl.is rfl (by decide) (by omega)) ?_
       refine h_listed (listed' := #[T',T',T',T',T',T',T',T',T',T',T',T',T',T',T',T',T',T',T',F',F',F',F',F']) (by kernel_rfl) ?_
       refine h_t 19 rfl rfl (by kernel_rfl) (fun _ _ _ h => h) ⟨hK, hE⟩ rfl (fun W hW => r_load (v := .int .i64 (iat t.l 0)) rfl Tryz.isAgg3 rfl ((htl.keep RInt.kept (Ext0.cells hW.2)).int 0 (by decide) (by omega))) ?_
       refine h_listed (listed' := #[T',T',T',T',T',T',T',T',T',T',T',T',T',T',T',T',T',T',T',T',F',F',F',F']) (by kernel_rfl) ?_
       refine h_t 20 rfl rfl (by kernel_rfl) (fun _ _ _ h => h) ⟨hK, hE⟩ rfl (fun W hW => r_indexAddr_sl rfl Tryz.underlying62 Tryz.sizeOf4 rfl hr1 rfl ht9.1 ht9.2) ?_
       refine h_listed (listed' := #[T',T',T',T',T',T',T',T',T',T',T',T',T',T',T',T',T',T',T',T',T',F',F',F']) (by kernel_rfl) ?_
       refine h_t 21 rfl rfl (by kernel_rfl) (fun _ _ _ h => h) ⟨hK, hE⟩ rfl (fun W hW => r_load (v := .bool (X (iat s.l 0, (iat t.l 0)))) rfl Tryz.isAgg4 rfl (Ext0.cells hW.2 _ _ (hr2 (iat t.l 0) ht9.1 ht9.2))) ?_
       refine h_listed (listed' := #[T',T',T',T',T',T',T',T',T',T',T',T',T',T',T',T',T',T',T',T',T',T',F',F']) (by kernel_rfl) ?_
       refine h_t 22 rfl rfl (by kernel_rfl) (fun _ _ _ h => h) ⟨hK, hE⟩ rfl (fun W hW => r_pick rfl rfl) ?_
       refine h_listed (listed' := #[T',T',T',T',T',T',T',T',T',T',T',T',T',T',T',T',T',T',T',T',T',T',T',F']) (by kernel_rfl) ?_
       refine h_t 23 rfl rfl (by kernel_rfl) (fun _ _ _ h => h) ⟨hK, hE⟩ rfl (fun W hW => r_assign rfl) ?_
       refine h_listed (listed' := #[T',T',T',T',T',T',T',T',T',T',T',T',T',T',T',T',T',T',T',T',T',T',T',T']) (by kernel_rfl) ?_
       refine h_done (by kernel_rfl) ?_
       refine c_ret ?_
       exact ⟨ret_bool rfl hd2.symm, hE⟩
      ·have hr52 := hb
       replace hb := of_decide_eq_false hb
       rw [if_neg hb] at hd2
       refine h_listed (listed' := #[T',T',T',T',T',T',F',F',F',F',F',F',F',F',F',F',F',F',F',F',F',F',F',F']) (by kernel_rfl) ?_
       refine h_n 6 rfl rfl (by kernel_rfl) (fun _ _ _ h => h) ⟨hK, hE⟩ rfl ?_
       refine h_listed (listed' := #[T',T',T',T',T',T',T',F',F',F',F',F',F',F',F',F',F',F',F',F',F',F',F',F']) (by kernel_rfl) ?_
       refine h_n 7 rfl rfl (by kernel_rfl) (fun _ _ _ h => h) ⟨hK, hE⟩ rfl ?_
       refine h_listed (listed' := #[T',T',T',T',T',T',T',T',F',F',F',F',F',F',F',F',F',F',F',F',F',F',F',F']) (by kernel_rfl) ?_
       refine h_n 8 rfl rfl (by kernel_rfl) (fun _ _ _ h => h) ⟨hK, hE⟩ rfl ?_
       refine h_listed (listed' := #[T',T',T',T',T',T',T',T',T',F',F',F',F',F',F',F',F',F',F',F',F',F',F',F']) (by kernel_rfl) ?_
       refine h_n 9 rfl rfl (by kernel_rfl) (fun _ _ _ h => h) ⟨hK, hE⟩ rfl ?_
       refine h_listed (listed' := #[T',T',T',T',T',T',T',T',T',T',F',F',F',F',F',F',F',F',F',F',F',F',F',F']) (by kernel_rfl) ?_
       refine h_n 10 rfl rfl (by kernel_rfl) (fun _ _ _ h => h) ⟨hK, hE⟩ rfl ?_
       refine h_listed (listed' := #[T',T',T',T',T',T',T',T',T',T',T',F',F',F',F',F',F',F',F',F',F',F',F',F']) (by kernel_rfl) ?_
       refine h_n 11 rfl rfl (by kernel_rfl) (fun _ _ _ h => h) ⟨hK, hE⟩ rfl ?_
       refine h_listed (listed' := #[T',T',T',T',T',T',T',T',T',T',T',T',F',F',F',F',F',F',F',F',F',F',F',F']) (by kernel_rfl) ?_
       refine h_n 12 rfl rfl (by kernel_rfl) (fun _ _ _ h => h) ⟨hK, hE⟩ rfl ?_
       refine h_listed (listed' := #[T',T',T',T',T',T',T',T',T',T',T',T',T',F',F',F',F',F',F',F',F',F',F',F']) (by kernel_rfl) ?_
       refine h_n 13 rfl rfl (by kernel_rfl) (fun _ _ _ h => h) ⟨hK, hE⟩ rfl ?_
       refine h_listed (listed' := #[T',T',T',T',T',T',T',T',T',T',T',T',T',T',F',F',F',F',F',F',F',F',F',F']) (by kernel_rfl) ?_
       refine h_n 14 rfl rfl (by kernel_rfl) (fun _ _ _ h => h) ⟨hK, hE⟩ rfl ?_
       refine h_listed (listed' := #[T',T',T',T',T',T',T',T',T',T',T',T',T',T',T',F',F',F',F',F',F',F',F',F']) (by kernel_rfl) ?_
       refine h_n 15 rfl rfl (by kernel_rfl) (fun _ _ _ h => h) ⟨hK, hE⟩ rfl ?_
       refine h_listed (listed' := #[T',T',T',T',T',T',T',T',T',T',T',T',T',T',T',T',F',F',F',F',F',F',F',F']) (by kernel_rfl) ?_
       refine h_n 16 rfl rfl (by kernel_rfl) (fun _ _ _ h => h) ⟨hK, hE⟩ rfl ?_
       refine h_listed (listed' := #[T',T',T',T',T',T',T',T',T',T',T',T',T',T',T',T',T',F',F',F',F',F',F',F']) (by kernel_rfl) ?_
       refine h_n 17 rfl rfl (by kernel_rfl) (fun _ _ _ h => h) ⟨hK, hE⟩ rfl ?_
       refine h_listed (listed' := #[T',T',T',T',T',T',T',T',T',T',T',T',T',T',T',T',T',T',F',F',F',F',F',F']) (by kernel_rfl) ?_
       refine h_n 18 rfl rfl (by kernel_rfl) (fun _ _ _ h => h) ⟨hK, hE⟩ rfl ?_
       refine h_listed (listed' := #[T',T',T',T',T',T',T',T',T',T',T',T',T',T',T',T',T',T',T',F',F',F',F',F']) (by kernel_rfl) ?_
       refine h_n 19 rfl rfl (by kernel_rfl) (fun _ _ _ h => h) ⟨hK, hE⟩ rfl ?_
       refine h_listed (listed' := #[T',T',T',T',T',T',T',T',T',T',T',T',T',T',T',T',T',T',T',T',F',F',F',F']) (by kernel_rfl) ?_
       refine h_n 20 rfl rfl (by kernel_rfl) (fun _ _ _ h => h) ⟨hK, hE⟩ rfl ?_
       refine h_listed (listed' := #[T',T',T',T',T',T',T',T',T',T',T',T',T',T',T',T',T',T',T',T',T',F',F',F']) (by kernel_rfl) ?_
       refine h_n 21 rfl rfl (by kernel_rfl) (fun _ _ _ h => h) ⟨hK, hE⟩ rfl ?_
       refine h_listed (listed' := #[T',T',T',T',T',T',T',T',T',T',T',T',T',T',T',T',T',T',T',T',T',T',F',F']) (by kernel_rfl) ?_
       refine h_t 22 rfl rfl (by kernel_rfl) (fun _ _ _ h => h) ⟨hK, hE⟩ rfl (fun W hW => r_pick rfl rfl) ?_
       refine h_listed (listed' := #[T',T',T',T',T',T',T',T',T',T',T',T',T',T',T',T',T',T',T',T',T',T',T',F']) (by kernel_rfl) ?_
       refine h_t 23 rfl rfl (by kernel_rfl) (fun _ _ _ h => h) ⟨hK, hE⟩ rfl (fun W hW => r_assign rfl) ?_
       refine h_listed (listed' := #[T',T',T',T',T',T',T',T',T',T',T',T',T',T',T',T',T',T',T',T',T',T',T',T']) (by kernel_rfl) ?_
       refine h_done (by kernel_rfl) ?_
       refine c_ret ?_
       exact ⟨ret_bool rfl hd2.symm, hE⟩
     ·have hr45 := hb
      replace hb := of_decide_eq_false hb
      have h7 : s.kind = 7 := by rcases hs.plain with k | k | k | k | k | ⟨k, _⟩ | ⟨k, _⟩ <;> first | exact k | omega | exact absurd (.inl k) h11 | exact absurd k hb
      have hd2 : doesX st X s t = recX X s (t.keys.zip t.l) := by rw [hd]; unfold ruleX; rw [if_neg h5, if_pos h7]
      refine c_skip ?_
      refine c_seq ?_
      refine c_ops ?_
      refine mv' rfl rfl rfl rfl ?_
      refine l_val rfl rfl rfl (r_load_blk_agg rfl Tryz.isAgg46 Tryz.sizeOf46 rfl (hL.get 1 rfl) rfl) ?_
      refine l_val rfl rfl rfl (r_load_blk_agg rfl Tryz.isAgg46 Tryz.sizeOf46 rfl (hL.get 0 rfl) rfl) ?_
      refine l_by rfl rfl rfl (r_call rfl rfl Tryz.func114 rfl rfl) (records_rcalls _ (hG.keep (Ext0.cells hE)) s Ak ck Al cl (hsk.keep RStr.kept (Ext0.cells hE)) (hsl.keep RInt.kept (Ext0.cells hE)) t Bk dk Bl dl (htk.keep RStr.kept (Ext0.cells hE)) (htl.keep RInt.kept (Ext0.cells hE)) hs ht (hs.rcd h7) (ht.rcd (hkk ▸ h7))) ?_
      rintro _ w ⟨rfl, hX⟩
      replace hL := hL.ext0 hX
      replace hE := hE.step0 hX
      refine ⟨_, rfl, ?_⟩
      refine as' rfl rfl rfl rfl ?_
      refine l_nil ?_
      refine c_ret ?_
      exact ⟨ret_bool rfl hd2.symm, hE⟩
end
end Go.Proofs.YtndophlnapjkhaaGreatDoor.Vc
namespace Go.Proofs.YtndophlnapjkhaaGreatDoor.Vc
open Go Go.RowKit
set_option linter.unusedVariables false
set_option linter.unusedSimpArgs false
theorem findX_step {α : Type} (p : α → Bool) (l : List α) (k : Nat) (x : α) (h : l[k]? = some x) : findX p k (l.drop k) = if p x then some k else findX p (k + 1) (l.drop (k + 1)) := by
 have hk : k < l.length := (List.getElem?_eq_some_iff.1 h).1
 rw [List.drop_eq_getElem_cons hk]
 have : l[k] = x := (List.getElem?_eq_some_iff.1 h).2
 rw [this, findX]
theorem findX_end {α : Type} (p : α → Bool) (l : List α) (k : Nat) (h : l.length ≤ k) : findX p k (l.drop k) = none := by
 rw [List.drop_eq_nil_of_le h]
 rfl
section
variable {g : List GNode} {xb : Nat} {Ag : Option Addr} {cg : Nat} {st : Bool} {Ai : Option Addr} {ci : Nat} {X : Int × Int → Bool}
theorem pickX_hit {a b : Int} {k : Nat} (h : findX (fun k => doesX st X (gat g a) (gat g k)) 0 (membersG g b) = some k) : pickX g st X a b = k := by
 unfold pickX
 rw [h]
theorem pickX_miss {a b : Int} (h : findX (fun k => doesX st X (gat g a) (gat g k)) 0 (membersG g b) = none) : pickX g st X a b = if (gat g a).kind = 9 then (if X (iat (gat g a).l 0, b) then -1 else -2) else -2 := by
 unfold pickX
 rw [h]
theorem pick_rcalls (w0 : World) (hG : Grid w0 xb Ag g.length cg st Ai ci X) (hg : Nodes w0 Ag cg g) (hok : GraphOk g) (a b : Int) (ha : 0 ≤ a) (han : a < g.length) (ha8 : (gat g a).kind ≠ 8) (hb0 : 0 ≤ b) (hbn : b < g.length) :
    Calls Tryz.prog 83 [.pointer (some ⟨xb, 0, none⟩), .int .i64 a, .int .i64 b].toArray w0 fun en w' => en = .returned (.int .i64 (pickX g st X a b)) ∧ Ext0 w0 w' := by
 have hE : Ext0 w0 w0 := Ext.refl _ _
 have hL : Has w0 [] := trivial
 obtain ⟨Ak, ck, Al, cl, hcell, hsk, hsl⟩ := hg.node a ha han
 have hs := SideOk.of hok (gat_mem' ha han) ha8
 have hgi := hg.is
 refine calls [6] Tryz.func83 rfl rfl rfl rfl ?_
 refine c_seq ?_
 refine c_ops ?_
 refine as' rfl rfl rfl rfl ?_
 refine l_nil ?_
 refine c_seq ?_
 refine c_ops ?_
 refine mv' rfl rfl rfl rfl ?_
 refine l_val rfl rfl rfl (r_nilCheck rfl rfl) ?_
 refine l_val rfl rfl rfl (r_fieldAddr (n := 0) rfl Tryz.underlying65 rfl Tryz.sizeOf22 rfl) ?_
 refine l_val rfl rfl rfl (r_load rfl Tryz.isAgg22 rfl (Ext0.cells hE _ _ hG.c0)) ?_
 refine mv' rfl rfl rfl rfl ?_
 refine l_by rfl rfl rfl (r_call rfl rfl Tryz.func63 rfl rfl) (rMembers_calls _ Ag cg g (hg.keep RNode.kept (Ext0.cells hE)) hok.fits b) ?_
 rintro _ w ⟨v, rfl, hrow, hX⟩
 replace hE := hE.trans hX
 obtain ⟨Am, cm, rfl, hmem, _⟩ := Sl.ofInts hrow
 clear hrow
 obtain ⟨wa, hwa⟩ : ∃ x, x = w := ⟨_, rfl⟩
 rw [← hwa] at hmem hE
 have hE0 : Ext0 w0 wa := hE
 replace hE : Ext0 wa w := hwa ▸ Ext.refl _ _
 replace hG := hG.keep (Ext0.cells hE0)
 replace hg := hg.keep RNode.kept (Ext0.cells hE0)
 have hL : Has w [] := trivial
 replace hsk := hsk.keep RStr.kept (Ext0.cells hE0)
 replace hsl := hsl.keep RInt.kept (Ext0.cells hE0)
 have hcell : ∀ j v, (nodeCells (gat g a) Ak ck Al cl)[j]? = some v → wa.cell? (((adr Ag).add (a.toNat * 5)).add j) = some v := fun j v hj => Ext0.cells hE0 _ _ (hcell j v hj)
 refine ⟨_, rfl, ?_⟩
 refine as' rfl rfl rfl rfl ?_
 refine l_nil ?_
 refine c_seq ?_
 refine c_seq ?_
 refine c_ops ?_
 refine as' rfl rfl rfl rfl ?_
 refine l_nil ?_
 refine c_block ?_
 refine c_loop [6, 8, 15, 16, 17, 18, 19, 20, 21, 22, 23, 24, 25, 26, 27, 28, 29, 30, 31, 32, 33, 34, 35, 36, 37, 38, 39, 40] (fun m1 e w => ∃ (k : Nat), k ≤ (membersG g b).length ∧ m1 = (membersG g b).length - k ∧ e 8 = .int .i64 (k : Nat) ∧ findX (fun k => doesX st X (gat g a) (gat g k)) 0 (membersG g b) = findX (fun k => doesX st X (gat g a) (gat g k)) k ((membersG g b).drop k) ∧ Ext0 wa w) ((membersG g b).length) ?_ ?_
 ·exact ⟨0, Nat.zero_le _, rfl, rfl, rfl, hE⟩
 intro m1 e w hI
 obtain ⟨k, hkl, hkm, h8s, hfind, hE⟩ := hI
 refine c_know (t := 8) (by exact h8s) ?_
 have hL : Has w [] := trivial
 refine c_seq ?_
 refine c_seq ?_
 refine c_ops ?_
 refine mv' rfl rfl rfl rfl ?_
 refine mv' rfl rfl rfl rfl ?_
 refine l_val rfl rfl rfl (r_len rfl Tryz.underlying26 rfl) ?_
 refine l_val rfl rfl rfl (r_lss rfl rfl rfl) ?_
 refine l_nil ?_
 refine c_cond rfl (fun hb => ?_) (fun hb => ?_)
 ·have hr18 := hb
  replace hb := of_decide_eq_true hb
  have hklt : k < (membersG g b).length := by omega
  have hk := iat_nat hklt
  have hin := hok.members (List.mem_of_getElem? hk)
  obtain ⟨Bk, dk, Bl, dl, hcell2, htk, htl⟩ := hg.node (iat (membersG g b) k) hin.1 hin.2.1
  have hstep := findX_step (fun k => doesX st X (gat g a) (gat g k)) (membersG g b) k _ hk
  refine c_skip ?_
  refine c_seq ?_
  refine c_block ?_
  refine c_seq ?_
  refine c_draw mixed (hL) hE ?_
  replace hL := hL.drew
  replace hE := hE.drew
  have hK := hL
  refine h_t 0 rfl rfl (by kernel_rfl) (fun _ _ _ h => h) ⟨hK, hE⟩ rfl (fun W hW => r_move rfl) ?_
  refine h_listed (listed' := #[T',F',F',F',F',F',F',F',F',F',F',F',F',F',F',F',F',F',F']) (by kernel_rfl) ?_
  refine h_t 1 rfl rfl (by kernel_rfl) (fun _ _ _ h => h) ⟨hK, hE⟩ rfl (fun W hW => r_move rfl) ?_
  refine h_listed (listed' := #[T',T',F',F',F',F',F',F',F',F',F',F',F',F',F',F',F',F',F']) (by kernel_rfl) ?_
  refine h_t 2 rfl rfl (by kernel_rfl) (fun _ _ _ h => h) ⟨hK, hE⟩ rfl (fun W hW => r_nilCheck rfl rfl) ?_
  refine h_listed (listed' := #[T',T',T',F',F',F',F',F',F',F',F',F',F',F',F',F',F',F',F']) (by kernel_rfl) ?_
  refine h_t 3 rfl rfl (by kernel_rfl) (fun _ _ _ h => h) ⟨hK, hE⟩ rfl (fun W hW => r_fieldAddr (n := 0) rfl Tryz.underlying65 rfl Tryz.sizeOf22 rfl) ?_
  refine h_listed (listed' := #[T',T',T',T',F',F',F',F',F',F',F',F',F',F',F',F',F',F',F']) (by kernel_rfl) ?_
  refine h_t 4 rfl rfl (by kernel_rfl) (fun _ _ _ h => h) ⟨hK, hE⟩ rfl (fun W hW => r_load rfl Tryz.isAgg22 rfl (Ext0.cells hW.2 _ _ hG.c0)) ?_
  refine h_listed (listed' := #[T',T',T',T',T',F',F',F',F',F',F',F',F',F',F',F',F',F',F']) (by kernel_rfl) ?_
  refine h_t 5 rfl rfl (by kernel_rfl) (fun _ _ _ h => h) ⟨hK, hE⟩ rfl (fun W hW => r_move rfl) ?_
  refine h_listed (listed' := #[T',T',T',T',T',T',F',F',F',F',F',F',F',F',F',F',F',F',F']) (by kernel_rfl) ?_
  refine h_t 6 rfl rfl (by kernel_rfl) (fun _ _ _ h => h) ⟨hK, hE⟩ rfl (fun W hW => r_indexAddr_sl rfl Tryz.underlying22 Tryz.sizeOf46 rfl hgi rfl ha han) ?_
  refine h_listed (listed' := #[T',T',T',T',T',T',T',F',F',F',F',F',F',F',F',F',F',F',F']) (by kernel_rfl) ?_
  refine h_t 7 rfl rfl (by kernel_rfl) (fun _ _ _ h => h) ⟨hK, hE⟩ rfl (fun W hW => r_load_agg (vs := nodeCells (gat g a) Ak ck Al cl) rfl Tryz.isAgg46 Tryz.sizeOf46 rfl (fun j v hj => (Ext0.cells hW.2) _ _ (hcell j v hj))) ?_
  refine h_listed (listed' := #[T',T',T',T',T',T',T',T',F',F',F',F',F',F',F',F',F',F',F']) (by kernel_rfl) ?_
  refine h_t 8 rfl rfl (by kernel_rfl) (fun _ _ _ h => h) ⟨hK, hE⟩ rfl (fun W hW => r_move rfl) ?_
  refine h_listed (listed' := #[T',T',T',T',T',T',T',T',T',F',F',F',F',F',F',F',F',F',F']) (by kernel_rfl) ?_
  refine h_t 9 rfl rfl (by kernel_rfl) (fun _ _ _ h => h) ⟨hK, hE⟩ rfl (fun W hW => r_nilCheck rfl rfl) ?_
  refine h_listed (listed' := #[T',T',T',T',T',T',T',T',T',T',F',F',F',F',F',F',F',F',F']) (by kernel_rfl) ?_
  refine h_t 10 rfl rfl (by kernel_rfl) (fun _ _ _ h => h) ⟨hK, hE⟩ rfl (fun W hW => r_fieldAddr (n := 0) rfl Tryz.underlying65 rfl Tryz.sizeOf22 rfl) ?_
  refine h_listed (listed' := #[T',T',T',T',T',T',T',T',T',T',T',F',F',F',F',F',F',F',F']) (by kernel_rfl) ?_
  refine h_t 11 rfl rfl (by kernel_rfl) (fun _ _ _ h => h) ⟨hK, hE⟩ rfl (fun W hW => r_load rfl Tryz.isAgg22 rfl (Ext0.cells hW.2 _ _ hG.c0)) ?_
  refine h_listed (listed' := #[T',T',T',T',T',T',T',T',T',T',T',T',F',F',F',F',F',F',F']) (by kernel_rfl) ?_
  refine h_t 12 rfl rfl (by kernel_rfl) (fun _ _ _ h => h) ⟨hK, hE⟩ rfl (fun W hW => r_move rfl) ?_
  refine h_listed (listed' := #[T',T',T',T',T',T',T',T',T',T',T',T',T',F',F',F',F',F',F']) (by kernel_rfl) ?_
  refine h_t 13 rfl rfl (by kernel_rfl) (fun _ _ _ h => h) ⟨hK, hE⟩ rfl (fun W hW => r_move rfl) ?_
  refine h_listed (listed' := #[T',T',T',T',T',T',T',T',T',T',T',T',T',T',F',F',F',F',F']) (by kernel_rfl) ?_
  refine h_t 14 rfl rfl (by kernel_rfl) (fun _ _ _ h => h) ⟨hK, hE⟩ rfl (fun W hW => r_indexAddr_sl rfl Tryz.underlying26 Tryz.sizeOf3 rfl hmem.is rfl (by omega) (by omega)) ?_
  refine h_listed (listed' := #[T',T',T',T',T',T',T',T',T',T',T',T',T',T',T',F',F',F',F']) (by kernel_rfl) ?_
  refine h_t 15 rfl rfl (by kernel_rfl) (fun _ _ _ h => h) ⟨hK, hE⟩ rfl (fun W hW => r_load (v := .int .i64 (iat (membersG g b) k)) rfl Tryz.isAgg3 rfl ((hmem.keep RInt.kept (Ext0.cells hW.2)).int k (by omega) (by omega))) ?_
  refine h_listed (listed' := #[T',T',T',T',T',T',T',T',T',T',T',T',T',T',T',T',F',F',F']) (by kernel_rfl) ?_
  refine h_t 16 rfl rfl (by kernel_rfl) (fun _ _ _ h => h) ⟨hK, hE⟩ rfl (fun W hW => r_indexAddr_sl rfl Tryz.underlying22 Tryz.sizeOf46 rfl hgi rfl hin.1 hin.2.1) ?_
  refine h_listed (listed' := #[T',T',T',T',T',T',T',T',T',T',T',T',T',T',T',T',T',F',F']) (by kernel_rfl) ?_
  refine h_t 17 rfl rfl (by kernel_rfl) (fun _ _ _ h => h) ⟨hK, hE⟩ rfl (fun W hW => r_load_agg (vs := nodeCells (gat g (iat (membersG g b) k)) Bk dk Bl dl) rfl Tryz.isAgg46 Tryz.sizeOf46 rfl (fun j v hj => (Ext0.cells hW.2) _ _ (hcell2 j v hj))) ?_
  refine h_listed (listed' := #[T',T',T',T',T',T',T',T',T',T',T',T',T',T',T',T',T',T',F']) (by kernel_rfl) ?_
  refine h_by 18 rfl rfl (by kernel_rfl) rfl (r_call rfl rfl Tryz.func101 rfl rfl) (does_rcalls _ (hG.keep (Ext0.cells hE)) (gat g a) Ak ck Al cl (hsk.keep RStr.kept (Ext0.cells hE)) (hsl.keep RInt.kept (Ext0.cells hE)) (gat g (iat (membersG g b) k)) Bk dk Bl dl (htk.keep RStr.kept (Ext0.cells hE)) (htl.keep RInt.kept (Ext0.cells hE)) hs (SideOk.of hok (gat_mem' hin.1 hin.2.1) hin.2.2)) ?_
  rintro _ w ⟨rfl, hX⟩
  replace hL := hL.ext0 hX
  replace hE := hE.step0 hX
  have hK := hL
  refine ⟨_, rfl, ⟨hK, hE⟩, ?_⟩
  refine h_listed (listed' := #[T',T',T',T',T',T',T',T',T',T',T',T',T',T',T',T',T',T',T']) (by kernel_rfl) ?_
  refine h_done (by kernel_rfl) ?_
  refine c_cond rfl (fun hb => ?_) (fun hb => ?_)
  ·have hr39 := hb
   refine c_seq ?_
   refine c_ops ?_
   refine mv' rfl rfl rfl rfl ?_
   refine as' rfl rfl rfl rfl ?_
   refine l_nil ?_
   refine c_ret ?_
   exact ⟨ret_int rfl (pickX_hit (by rw [hfind, hstep, hb]; rfl)).symm, hE0.trans hE⟩
  ·have hr39 := hb
   refine c_skip ?_
   refine c_ops ?_
   refine mv' rfl rfl rfl rfl ?_
   refine l_val rfl rfl rfl (r_add rfl rfl rfl) ?_
   refine as' rfl rfl rfl rfl ?_
   refine l_nil ?_
   refine ag' ?_
   exact ⟨(membersG g b).length - (k + 1), by omega, k + 1, by omega, rfl, by show Value.int .i64 (IntKind.i64.wrap ((k : Int) + 1)) = _; rw [wrap_succ hklt hmem.max], by rw [hfind, hstep, hb]; rfl, hE⟩
 ·have hr18 := hb
  replace hb := of_decide_eq_false hb
  have hmiss := pickX_miss (hfind.trans (findX_end _ _ _ (by omega)))
  refine c_exit ?_
  refine c_seq ?_
  refine c_seq ?_
  refine c_draw mixed (hL) hE ?_
  replace hL := hL.drew
  replace hE := hE.drew
  have hK := hL
  refine h_t 0 rfl rfl (by kernel_rfl) (fun _ _ _ h => h) ⟨hK, hE⟩ rfl (fun W hW => r_move rfl) ?_
  refine h_listed (listed' := #[T',F',F',F',F',F',F',F',F',F',F',F',F',F',F',F',F',F',F',F',F',F',F',F',F',F',F',F',F',F']) (by kernel_rfl) ?_
  refine h_t 1 rfl rfl (by kernel_rfl) (fun _ _ _ h => h) ⟨hK, hE⟩ rfl (fun W hW => r_nilCheck rfl rfl) ?_
  refine h_listed (listed' := #[T',T',F',F',F',F',F',F',F',F',F',F',F',F',F',F',F',F',F',F',F',F',F',F',F',F',F',F',F',F']) (by kernel_rfl) ?_
  refine h_t 2 rfl rfl (by kernel_rfl) (fun _ _ _ h => h) ⟨hK, hE⟩ rfl (fun W hW => r_fieldAddr (n := 0) rfl Tryz.underlying65 rfl Tryz.sizeOf22 rfl) ?_
  refine h_listed (listed' := #[T',T',T',F',F',F',F',F',F',F',F',F',F',F',F',F',F',F',F',F',F',F',F',F',F',F',F',F',F',F']) (by kernel_rfl) ?_
  refine h_t 3 rfl rfl (by kernel_rfl) (fun _ _ _ h => h) ⟨hK, hE⟩ rfl (fun W hW => r_load rfl Tryz.isAgg22 rfl (Ext0.cells hW.2 _ _ hG.c0)) ?_
  refine h_listed (listed' := #[T',T',T',T',F',F',F',F',F',F',F',F',F',F',F',F',F',F',F',F',F',F',F',F',F',F',F',F',F',F']) (by kernel_rfl) ?_
  refine h_t 4 rfl rfl (by kernel_rfl) (fun _ _ _ h => h) ⟨hK, hE⟩ rfl (fun W hW => r_move rfl) ?_
  refine h_listed (listed' := #[T',T',T',T',T',F',F',F',F',F',F',F',F',F',F',F',F',F',F',F',F',F',F',F',F',F',F',F',F',F']) (by kernel_rfl) ?_
  refine h_t 5 rfl rfl (by kernel_rfl) (fun _ _ _ h => h) ⟨hK, hE⟩ rfl (fun W hW => r_indexAddr_sl rfl Tryz.underlying22 Tryz.sizeOf46 rfl hgi rfl ha han) ?_
  refine h_listed (listed' := #[T',T',T',T',T',T',F',F',F',F',F',F',F',F',F',F',F',F',F',F',F',F',F',F',F',F',F',F',F',F']) (by kernel_rfl) ?_
  refine h_t 6 rfl rfl (by kernel_rfl) (fun _ _ _ h => h) ⟨hK, hE⟩ rfl (fun W hW => r_fieldAddr (n := 0) rfl Tryz.underlying46 rfl Tryz.sizeOf3 rfl) ?_
  refine h_listed (listed' := #[T',T',T',T',T',T',T',F',F',F',F',F',F',F',F',F',F',F',F',F',F',F',F',F',F',F',F',F',F',F']) (by kernel_rfl) ?_
  refine h_t 7 rfl rfl (by kernel_rfl) (fun _ _ _ h => h) ⟨hK, hE⟩ rfl (fun W hW => r_load rfl Tryz.isAgg3 rfl (Ext0.cells hW.2 _ _ (hcell 0 _ rfl))) ?_
  refine h_listed (listed' := #[T',T',T',T',T',T',T',T',F',F',F',F',F',F',F',F',F',F',F',F',F',F',F',F',F',F',F',F',F',F']) (by kernel_rfl) ?_
  refine h_t 8 rfl rfl (by kernel_rfl) (fun _ _ _ h => h) ⟨hK, hE⟩ rfl (fun W hW => r_eql rfl rfl rfl) ?_
  refine h_listed (listed' := #[T',T',T',T',T',T',T',T',T',F',F',F',F',F',F',F',F',F',F',F',F',F',F',F',F',F',F',F',F',F']) (by kernel_rfl) ?_
  refine h_t 9 rfl rfl (by kernel_rfl) (fun _ _ _ h => h) ⟨hK, hE⟩ rfl (fun W hW => r_move rfl) ?_
  refine h_listed (listed' := #[T',T',T',T',T',T',T',T',T',T',F',F',F',F',F',F',F',F',F',F',F',F',F',F',F',F',F',F',F',F']) (by kernel_rfl) ?_
  refine h_case 50 rfl (fun hb => ?_) (fun hb => ?_)
  ·have hr50 := hb
   replace hb := of_decide_eq_true hb
   have h9 : (gat g a).kind = 9 := hb
   have hs9 := hs.first h9
   obtain ⟨Ar, cr, hr0, hr1, hr2⟩ := hG.row (iat (gat g a).l 0) hs9.1 hs9.2
   refine h_listed (listed' := #[T',T',T',T',T',T',T',T',T',T',F',F',F',F',F',F',F',F',F',F',F',F',F',F',F',F',F',F',F',F']) (by kernel_rfl) ?_
   refine h_t 10 rfl rfl (by kernel_rfl) (fun _ _ _ h => h) ⟨hK, hE⟩ rfl (fun W hW => r_move rfl) ?_
   refine h_listed (listed' := #[T',T',T',T',T',T',T',T',T',T',T',F',F',F',F',F',F',F',F',F',F',F',F',F',F',F',F',F',F',F']) (by kernel_rfl) ?_
   refine h_t 11 rfl rfl (by kernel_rfl) (fun _ _ _ h => h) ⟨hK, hE⟩ rfl (fun W hW => r_nilCheck rfl rfl) ?_
   refine h_listed (listed' := #[T',T',T',T',T',T',T',T',T',T',T',T',F',F',F',F',F',F',F',F',F',F',F',F',F',F',F',F',F',F']) (by kernel_rfl) ?_
   refine h_t 12 rfl rfl (by kernel_rfl) (fun _ _ _ h => h) ⟨hK, hE⟩ rfl (fun W hW => r_fieldAddr (n := 0) rfl Tryz.underlying65 rfl Tryz.sizeOf63 rfl) ?_
   refine h_listed (listed' := #[T',T',T',T',T',T',T',T',T',T',T',T',T',F',F',F',F',F',F',F',F',F',F',F',F',F',F',F',F',F']) (by kernel_rfl) ?_
   refine h_t 13 rfl rfl (by kernel_rfl) (fun _ _ _ h => h) ⟨hK, hE⟩ rfl (fun W hW => r_load rfl Tryz.isAgg63 rfl (Ext0.cells hW.2 _ _ hG.c2)) ?_
   refine h_listed (listed' := #[T',T',T',T',T',T',T',T',T',T',T',T',T',T',F',F',F',F',F',F',F',F',F',F',F',F',F',F',F',F']) (by kernel_rfl) ?_
   refine h_t 14 rfl rfl (by kernel_rfl) (fun _ _ _ h => h) ⟨hK, hE⟩ rfl (fun W hW => r_move rfl) ?_
   refine h_listed (listed' := #[T',T',T',T',T',T',T',T',T',T',T',T',T',T',T',F',F',F',F',F',F',F',F',F',F',F',F',F',F',F']) (by kernel_rfl) ?_
   refine h_t 15 rfl rfl (by kernel_rfl) (fun _ _ _ h => h) ⟨hK, hE⟩ rfl (fun W hW => r_nilCheck rfl rfl) ?_
   refine h_listed (listed' := #[T',T',T',T',T',T',T',T',T',T',T',T',T',T',T',T',F',F',F',F',F',F',F',F',F',F',F',F',F',F']) (by kernel_rfl) ?_
   refine h_t 16 rfl rfl (by kernel_rfl) (fun _ _ _ h => h) ⟨hK, hE⟩ rfl (fun W hW => r_fieldAddr (n := 0) rfl Tryz.underlying65 rfl Tryz.sizeOf22 rfl) ?_
   refine h_listed (listed' := #[T',T',T',T',T',T',T',T',T',T',T',T',T',T',T',T',T',F',F',F',F',F',F',F',F',F',F',F',F',F']) (by kernel_rfl) ?_
   refine h_t 17 rfl rfl (by kernel_rfl) (fun _ _ _ h => h) ⟨hK, hE⟩ rfl (fun W hW => r_load rfl Tryz.isAgg22 rfl (Ext0.cells hW.2 _ _ hG.c0)) ?_
   refine h_listed (listed' := #[T',T',T',T',T',T',T',T',T',T',T',T',T',T',T',T',T',T',F',F',F',F',F',F',F',F',F',F',F',F']) (by kernel_rfl) ?_
   refine h_t 18 rfl rfl (by kernel_rfl) (fun _ _ _ h => h) ⟨hK, hE⟩ rfl (fun W hW => r_move rfl) ?_
   refine h_listed (listed' := #[T',T',T',T',T',T',T',T',T',T',T',T',T',T',T',T',T',T',T',F',F',F',F',F',F',F',F',F',F',F']) (by kernel_rfl) ?_
   refine h_t 19 rfl rfl (by kernel_rfl) (fun _ _ _ h => h) ⟨hK, hE⟩ rfl (fun W hW => r_indexAddr_sl rfl Tryz.underlying22 Tryz.sizeOf46 rfl hgi rfl ha han) ?_
   refine h_listed (listed' := #[T',T',T',T',T',T',T',T',T',T',T',T',T',T',T',T',T',T',T',T',F',F',F',F',F',F',F',F',F',F']) (by kernel_rfl) ?_
   refine h_t 20 rfl rfl (by kernel_rfl) (fun _ _ _ h => h) ⟨hK, hE⟩ rfl (fun W hW => r_fieldAddr (n := 0) rfl Tryz.underlying46 rfl Tryz.sizeOf26 rfl) ?_
   refine h_listed (listed' := #[T',T',T',T',T',T',T',T',T',T',T',T',T',T',T',T',T',T',T',T',T',F',F',F',F',F',F',F',F',F']) (by kernel_rfl) ?_
   refine h_t 21 rfl rfl (by kernel_rfl) (fun _ _ _ h => h) ⟨hK, hE⟩ rfl (fun W hW => r_load rfl Tryz.isAgg26 rfl (Ext0.cells hW.2 _ _ (hcell 4 _ rfl))) ?_
   refine h_listed (listed' := #[T',T',T',T',T',T',T',T',T',T',T',T',T',T',T',T',T',T',T',T',T',T',F',F',F',F',F',F',F',F']) (by kernel_rfl) ?_
   refine h_t 22 rfl rfl (by kernel_rfl) (fun _ _ _ h => h) ⟨hK, hE⟩ rfl (fun W hW => r_indexAddr_sl rfl Tryz.underlying26 Tryz.sizeOf3 rfl hsl.is rfl (by decide) (by have := hs.var h9; omega)) ?_
   refine h_listed (listed' := #[T',T',T',T',T',T',T',T',T',T',T',T',T',T',T',T',T',T',T',T',T',T',T',F',F',F',F',F',F',F']) (by kernel_rfl) ?_
   refine h_t 23 rfl rfl (by kernel_rfl) (fun _ _ _ h => h) ⟨hK, hE⟩ rfl (fun W hW => r_load (v := .int .i64 (iat (gat g a).l 0)) rfl Tryz.isAgg3 rfl ((hsl.keep RInt.kept (Ext0.cells hW.2)).int 0 (by decide) (by have := hs.var h9; omega))) ?_
   refine h_listed (listed' := #[T',T',T',T',T',T',T',T',T',T',T',T',T',T',T',T',T',T',T',T',T',T',T',T',F',F',F',F',F',F']) (by kernel_rfl) ?_
   refine h_t 24 rfl rfl (by kernel_rfl) (fun _ _ _ h => h) ⟨hK, hE⟩ rfl (fun W hW => r_indexAddr_sl rfl Tryz.underlying63 Tryz.sizeOf62 rfl hG.is rfl hs9.1 hs9.2) ?_
   refine h_listed (listed' := #[T',T',T',T',T',T',T',T',T',T',T',T',T',T',T',T',T',T',T',T',T',T',T',T',T',F',F',F',F',F']) (by kernel_rfl) ?_
   refine h_t 25 rfl rfl (by kernel_rfl) (fun _ _ _ h => h) ⟨hK, hE⟩ rfl (fun W hW => r_load (v := .slice Ar g.length cr) rfl Tryz.isAgg62 rfl (Ext0.cells hW.2 _ _ hr0)) ?_
   refine h_listed (listed' := #[T',T',T',T',T',T',T',T',T',T',T',T',T',T',T',T',T',T',T',T',T',T',T',T',T',T',F',F',F',F']) (by kernel_rfl) ?_
   refine h_t 26 rfl rfl (by kernel_rfl) (fun _ _ _ h => h) ⟨hK, hE⟩ rfl (fun W hW => r_move rfl) ?_
   refine h_listed (listed' := #[T',T',T',T',T',T',T',T',T',T',T',T',T',T',T',T',T',T',T',T',T',T',T',T',T',T',T',F',F',F']) (by kernel_rfl) ?_
   refine h_t 27 rfl rfl (by kernel_rfl) (fun _ _ _ h => h) ⟨hK, hE⟩ rfl (fun W hW => r_indexAddr_sl rfl Tryz.underlying62 Tryz.sizeOf4 rfl hr1 rfl hb0 hbn) ?_
   refine h_listed (listed' := #[T',T',T',T',T',T',T',T',T',T',T',T',T',T',T',T',T',T',T',T',T',T',T',T',T',T',T',T',F',F']) (by kernel_rfl) ?_
   refine h_t 28 rfl rfl (by kernel_rfl) (fun _ _ _ h => h) ⟨hK, hE⟩ rfl (fun W hW => r_load (v := .bool (X (iat (gat g a).l 0, b))) rfl Tryz.isAgg4 rfl (Ext0.cells hW.2 _ _ (hr2 b hb0 hbn))) ?_
   refine h_listed (listed' := #[T',T',T',T',T',T',T',T',T',T',T',T',T',T',T',T',T',T',T',T',T',T',T',T',T',T',T',T',T',F']) (by kernel_rfl) ?_
   refine h_t 29 rfl rfl (by kernel_rfl) (fun _ _ _ h => h) ⟨hK, hE⟩ rfl (fun W hW => r_pick rfl rfl) ?_
   refine h_listed (listed' := #[T',T',T',T',T',T',T',T',T',T',T',T',T',T',T',T',T',T',T',T',T',T',T',T',T',T',T',T',T',T']) (by kernel_rfl) ?_
   refine h_done (by kernel_rfl) ?_
   refine c_cond rfl (fun hb => ?_) (fun hb => ?_)
   ·have hr70 := hb
    rw [if_pos h9, if_pos hb] at hmiss
    refine c_seq ?_
    refine c_ops ?_
    refine as' rfl rfl rfl rfl ?_
    refine l_nil ?_
    refine c_ret ?_
    exact ⟨ret_int rfl hmiss.symm, hE0.trans hE⟩
   ·have hr70 := hb
    rw [if_pos h9, if_neg (by rw [hb]; decide)] at hmiss
    refine c_skip ?_
    refine c_seq ?_
    refine c_ops ?_
    refine as' rfl rfl rfl rfl ?_
    refine l_nil ?_
    refine c_ret ?_
    exact ⟨ret_int rfl hmiss.symm, hE0.trans hE⟩
  ·have hr50 := hb
   replace hb := of_decide_eq_false hb
   rw [if_neg hb] at hmiss
   refine h_listed (listed' := #[T',T',T',T',T',T',T',T',T',T',F',F',F',F',F',F',F',F',F',F',F',F',F',F',F',F',F',F',F',F']) (by kernel_rfl) ?_
   refine h_n 10 rfl rfl (by kernel_rfl) (fun _ _ _ h => h) ⟨hK, hE⟩ rfl ?_
   refine h_listed (listed' := #[T',T',T',T',T',T',T',T',T',T',T',F',F',F',F',F',F',F',F',F',F',F',F',F',F',F',F',F',F',F']) (by kernel_rfl) ?_
   refine h_n 11 rfl rfl (by kernel_rfl) (fun _ _ _ h => h) ⟨hK, hE⟩ rfl ?_
   refine h_listed (listed' := #[T',T',T',T',T',T',T',T',T',T',T',T',F',F',F',F',F',F',F',F',F',F',F',F',F',F',F',F',F',F']) (by kernel_rfl) ?_
   refine h_n 12 rfl rfl (by kernel_rfl) (fun _ _ _ h => h) ⟨hK, hE⟩ rfl ?_
   refine h_listed (listed' := #[T',T',T',T',T',T',T',T',T',T',T',T',T',F',F',F',F',F',F',F',F',F',F',F',F',F',F',F',F',F']) (by kernel_rfl) ?_
   refine h_n 13 rfl rfl (by kernel_rfl) (fun _ _ _ h => h) ⟨hK, hE⟩ rfl ?_
   refine h_listed (listed' := #[T',T',T',T',T',T',T',T',T',T',T',T',T',T',F',F',F',F',F',F',F',F',F',F',F',F',F',F',F',F']) (by kernel_rfl) ?_
   refine h_n 14 rfl rfl (by kernel_rfl) (fun _ _ _ h => h) ⟨hK, hE⟩ rfl ?_
   refine h_listed (listed' := #[T',T',T',T',T',T',T',T',T',T',T',T',T',T',T',F',F',F',F',F',F',F',F',F',F',F',F',F',F',F']) (by kernel_rfl) ?_
   refine h_n 15 rfl rfl (by kernel_rfl) (fun _ _ _ h => h) ⟨hK, hE⟩ rfl ?_
   refine h_listed (listed' := #[T',T',T',T',T',T',T',T',T',T',T',T',T',T',T',T',F',F',F',F',F',F',F',F',F',F',F',F',F',F']) (by kernel_rfl) ?_
   refine h_n 16 rfl rfl (by kernel_rfl) (fun _ _ _ h => h) ⟨hK, hE⟩ rfl ?_
   refine h_listed (listed' := #[T',T',T',T',T',T',T',T',T',T',T',T',T',T',T',T',T',F',F',F',F',F',F',F',F',F',F',F',F',F']) (by kernel_rfl) ?_
   refine h_n 17 rfl rfl (by kernel_rfl) (fun _ _ _ h => h) ⟨hK, hE⟩ rfl ?_
   refine h_listed (listed' := #[T',T',T',T',T',T',T',T',T',T',T',T',T',T',T',T',T',T',F',F',F',F',F',F',F',F',F',F',F',F']) (by kernel_rfl) ?_
   refine h_n 18 rfl rfl (by kernel_rfl) (fun _ _ _ h => h) ⟨hK, hE⟩ rfl ?_
   refine h_listed (listed' := #[T',T',T',T',T',T',T',T',T',T',T',T',T',T',T',T',T',T',T',F',F',F',F',F',F',F',F',F',F',F']) (by kernel_rfl) ?_
   refine h_n 19 rfl rfl (by kernel_rfl) (fun _ _ _ h => h) ⟨hK, hE⟩ rfl ?_
   refine h_listed (listed' := #[T',T',T',T',T',T',T',T',T',T',T',T',T',T',T',T',T',T',T',T',F',F',F',F',F',F',F',F',F',F']) (by kernel_rfl) ?_
   refine h_n 20 rfl rfl (by kernel_rfl) (fun _ _ _ h => h) ⟨hK, hE⟩ rfl ?_
   refine h_listed (listed' := #[T',T',T',T',T',T',T',T',T',T',T',T',T',T',T',T',T',T',T',T',T',F',F',F',F',F',F',F',F',F']) (by kernel_rfl) ?_
   refine h_n 21 rfl rfl (by kernel_rfl) (fun _ _ _ h => h) ⟨hK, hE⟩ rfl ?_
   refine h_listed (listed' := #[T',T',T',T',T',T',T',T',T',T',T',T',T',T',T',T',T',T',T',T',T',T',F',F',F',F',F',F',F',F']) (by kernel_rfl) ?_
   refine h_n 22 rfl rfl (by kernel_rfl) (fun _ _ _ h => h) ⟨hK, hE⟩ rfl ?_
   refine h_listed (listed' := #[T',T',T',T',T',T',T',T',T',T',T',T',T',T',T',T',T',T',T',T',T',T',T',F',F',F',F',F',F',F']) (by kernel_rfl) ?_
   refine h_n 23 rfl rfl (by kernel_rfl) (fun _ _ _ h => h) ⟨hK, hE⟩ rfl ?_
   refine h_listed (listed' := #[T',T',T',T',T',T',T',T',T',T',T',T',T',T',T',T',T',T',T',T',T',T',T',T',F',F',F',F',F',F']) (by kernel_rfl) ?_
   refine h_n 24 rfl rfl (by kernel_rfl) (fun _ _ _ h => h) ⟨hK, hE⟩ rfl ?_
   refine h_listed (listed' := #[T',T',T',T',T',T',T',T',T',T',T',T',T',T',T',T',T',T',T',T',T',T',T',T',T',F',F',F',F',F']) (by kernel_rfl) ?_
   refine h_n 25 rfl rfl (by kernel_rfl) (fun _ _ _ h => h) ⟨hK, hE⟩ rfl ?_
   refine h_listed (listed' := #[T',T',T',T',T',T',T',T',T',T',T',T',T',T',T',T',T',T',T',T',T',T',T',T',T',T',F',F',F',F']) (by kernel_rfl) ?_
   refine h_n 26 rfl rfl (by kernel_rfl) (fun _ _ _ h => h) ⟨hK, hE⟩ rfl ?_
   refine h_listed (listed' := #[T',T',T',T',T',T',T',T',T',T',T',T',T',T',T',T',T',T',T',T',T',T',T',T',T',T',T',F',F',F']) (by kernel_rfl) ?_
   refine h_n 27 rfl rfl (by kernel_rfl) (fun _ _ _ h => h) ⟨hK, hE⟩ rfl ?_
   refine h_listed (listed' := #[T',T',T',T',T',T',T',T',T',T',T',T',T',T',T',T',T',T',T',T',T',T',T',T',T',T',T',T',F',F']) (by kernel_rfl) ?_
   refine h_n 28 rfl rfl (by kernel_rfl) (fun _ _ _ h => h) ⟨hK, hE⟩ rfl ?_
   refine h_listed (listed' := #[T',T',T',T',T',T',T',T',T',T',T',T',T',T',T',T',T',T',T',T',T',T',T',T',T',T',T',T',T',F']) (by kernel_rfl) ?_
   refine h_t 29 rfl rfl (by kernel_rfl) (fun _ _ _ h => h) ⟨hK, hE⟩ rfl (fun W hW => r_pick rfl rfl) ?_
   refine h_listed (listed' := #[T',T',T',T',T',T',T',T',T',T',T',T',T',T',T',T',T',T',T',T',T',T',T',T',T',T',T',T',T',T']) (by kernel_rfl) ?_
   refine h_done (by kernel_rfl) ?_
   refine c_no rfl ?_
   refine c_skip ?_
   refine c_seq ?_
   refine c_ops ?_
   refine as' rfl rfl rfl rfl ?_
   refine l_nil ?_
   refine c_ret ?_
   exact ⟨ret_int rfl hmiss.symm, hE0.trans hE⟩
theorem Pick_rcalls (w0 : World) (hG : Grid w0 xb Ag g.length cg st Ai ci X) (hg : Nodes w0 Ag cg g) (hok : GraphOk g) (a b : Int) (ha : 0 ≤ a) (han : a < g.length) (ha8 : (gat g a).kind ≠ 8) (hb0 : 0 ≤ b) (hbn : b < g.length) :
    Calls Tryz.prog 84 [.pointer (some ⟨xb, 0, none⟩), .int .i64 a, .int .i64 b].toArray w0 fun en w' => en = .returned (.int .i64 (pickX g st X a b)) ∧ Ext0 w0 w' := by
 have hE : Ext0 w0 w0 := Ext.refl _ _
 refine calls [6] Tryz.func84 rfl rfl rfl rfl ?_
 refine c_seq ?_
 refine c_ops ?_
 refine as' rfl rfl rfl rfl ?_
 refine l_nil ?_
 refine c_seq ?_
 refine c_ops ?_
 refine mv' rfl rfl rfl rfl ?_
 refine mv' rfl rfl rfl rfl ?_
 refine mv' rfl rfl rfl rfl ?_
 refine l_by rfl rfl rfl (r_call rfl rfl Tryz.func83 rfl rfl) (pick_rcalls _ hG hg hok a b ha han ha8 hb0 hbn) ?_
 rintro _ w ⟨rfl, hX⟩
 replace hE := hE.trans hX
 refine ⟨_, rfl, ?_⟩
 refine as' rfl rfl rfl rfl ?_
 refine l_nil ?_
 refine c_ret ?_
 exact ⟨rfl, hE⟩
theorem stands_rcalls (w0 : World) (hG : Grid w0 xb Ag g.length cg st Ai ci X) (hg : Nodes w0 Ag cg g) (hok : GraphOk g) (p : Int × Int) (hp : InG g.length p) :
    Calls Tryz.prog 55 [.pointer (some ⟨xb, 0, none⟩), .int .i64 p.1, .int .i64 p.2].toArray w0 fun en w' => en = .returned (.bool (holdsX g st X p)) ∧ Ext0 w0 w' := by
 have hE : Ext0 w0 w0 := Ext.refl _ _
 have hL : Has w0 [] := trivial
 refine calls [6] Tryz.func55 rfl rfl rfl rfl ?_
 refine c_seq ?_
 refine c_ops ?_
 refine as' rfl rfl rfl rfl ?_
 refine l_nil ?_
 refine c_seq ?_
 refine c_ops ?_
 refine mv' rfl rfl rfl rfl ?_
 refine l_val rfl rfl rfl (r_nilCheck rfl rfl) ?_
 refine l_val rfl rfl rfl (r_fieldAddr (n := 0) rfl Tryz.underlying65 rfl Tryz.sizeOf22 rfl) ?_
 refine l_val rfl rfl rfl (r_load rfl Tryz.isAgg22 rfl (Ext0.cells hE _ _ hG.c0)) ?_
 refine mv' rfl rfl rfl rfl ?_
 refine l_by rfl rfl rfl (r_call rfl rfl Tryz.func63 rfl rfl) (rMembers_calls _ Ag cg g (hg.keep RNode.kept (Ext0.cells hE)) hok.fits p.1) ?_
 rintro _ w ⟨v, rfl, hrow, hX⟩
 replace hE := hE.trans hX
 obtain ⟨Am, cm, rfl, hmem, _⟩ := Sl.ofInts hrow
 clear hrow
 obtain ⟨wa, hwa⟩ : ∃ x, x = w := ⟨_, rfl⟩
 rw [← hwa] at hmem hE
 have hE0 : Ext0 w0 wa := hE
 replace hE : Ext0 wa w := hwa ▸ Ext.refl _ _
 replace hG := hG.keep (Ext0.cells hE0)
 replace hg := hg.keep RNode.kept (Ext0.cells hE0)
 have hL : Has w [] := trivial
 refine ⟨_, rfl, ?_⟩
 refine as' rfl rfl rfl rfl ?_
 refine l_nil ?_
 refine c_seq ?_
 refine c_seq ?_
 refine c_ops ?_
 refine as' rfl rfl rfl rfl ?_
 refine l_nil ?_
 refine c_block ?_
 refine c_loop [6, 8, 15, 16, 17, 18, 19, 20, 21, 22, 23, 24, 25, 26, 27, 28] (fun m1 e w => ∃ (k : Nat), k ≤ (membersG g p.1).length ∧ m1 = (membersG g p.1).length - k ∧ e 8 = .int .i64 (k : Nat) ∧ (∀ j : Nat, j < k → pickX g st X (iat (membersG g p.1) j) p.2 ≠ -2) ∧ Ext0 wa w) ((membersG g p.1).length) ?_ ?_
 ·exact ⟨0, Nat.zero_le _, rfl, rfl, fun j hj => absurd hj (Nat.not_lt_zero _), hE⟩
 intro m1 e w hI
 obtain ⟨k, hkl, hkm, h8s, hall, hE⟩ := hI
 refine c_know (t := 8) (by exact h8s) ?_
 have hL : Has w [] := trivial
 refine c_seq ?_
 refine c_seq ?_
 refine c_ops ?_
 refine mv' rfl rfl rfl rfl ?_
 refine mv' rfl rfl rfl rfl ?_
 refine l_val rfl rfl rfl (r_len rfl Tryz.underlying26 rfl) ?_
 refine l_val rfl rfl rfl (r_lss rfl rfl rfl) ?_
 refine l_nil ?_
 refine c_cond rfl (fun hb => ?_) (fun hb => ?_)
 ·have hr18 := hb
  replace hb := of_decide_eq_true hb
  have hklt : k < (membersG g p.1).length := by omega
  have hk := iat_nat hklt
  have hin := hok.members (List.mem_of_getElem? hk)
  refine c_skip ?_
  refine c_seq ?_
  refine c_block ?_
  refine c_seq ?_
  refine c_ops ?_
  refine mv' rfl rfl rfl rfl ?_
  refine mv' rfl rfl rfl rfl ?_
  refine mv' rfl rfl rfl rfl ?_
  refine l_val rfl rfl rfl (r_indexAddr_sl rfl Tryz.underlying26 Tryz.sizeOf3 rfl hmem.is rfl (by omega) (by omega)) ?_
  refine l_val rfl rfl rfl (r_load (v := .int .i64 (iat (membersG g p.1) k)) rfl Tryz.isAgg3 rfl ((hmem.keep RInt.kept (Ext0.cells hE)).int k (by omega) (by omega))) ?_
  refine mv' rfl rfl rfl rfl ?_
  refine l_by rfl rfl rfl (r_call rfl rfl Tryz.func83 rfl rfl) (pick_rcalls _ (hG.keep (Ext0.cells hE)) (hg.keep RNode.kept (Ext0.cells hE)) hok (iat (membersG g p.1) k) p.2 hin.1 hin.2.1 hin.2.2 hp.2.2.1 hp.2.2.2) ?_
  rintro _ w ⟨rfl, hX⟩
  replace hL := hL.ext0 hX
  replace hE := hE.step0 hX
  refine ⟨_, rfl, ?_⟩
  refine l_val rfl rfl rfl (r_eql rfl rfl rfl) ?_
  refine l_nil ?_
  refine c_cond rfl (fun hb => ?_) (fun hb => ?_)
  ·have hr28 := hb
   replace hb := of_decide_eq_true hb
   have hno : holdsX g st X p = false := by
    rw [Bool.eq_false_iff, Ne, holdsX_iff]
    exact fun h => h _ (List.mem_of_getElem? hk) hb
   refine c_seq ?_
   refine c_ops ?_
   refine as' rfl rfl rfl rfl ?_
   refine l_nil ?_
   refine c_ret ?_
   exact ⟨ret_bool rfl hno.symm, hE0.trans hE⟩
  ·have hr28 := hb
   replace hb := of_decide_eq_false hb
   refine c_skip ?_
   refine c_ops ?_
   refine mv' rfl rfl rfl rfl ?_
   refine l_val rfl rfl rfl (r_add rfl rfl rfl) ?_
   refine as' rfl rfl rfl rfl ?_
   refine l_nil ?_
   refine ag' ?_
   exact ⟨(membersG g p.1).length - (k + 1), by omega, k + 1, by omega, rfl, by show Value.int .i64 (IntKind.i64.wrap ((k : Int) + 1)) = _; rw [wrap_succ hklt hmem.max], fun j hj => by rcases Nat.lt_or_eq_of_le (Nat.le_of_lt_succ hj) with h | rfl <;> first | exact hall j h | exact hb, hE⟩
 ·have hr18 := hb
  replace hb := of_decide_eq_false hb
  have hyes : holdsX g st X p = true := by
   rw [holdsX_iff]
   intro s hs
   obtain ⟨j, hj⟩ := List.mem_iff_getElem?.1 hs
   have hjl := (List.getElem?_eq_some_iff.1 hj).1
   rw [iat_nat hjl] at hj
   cases hj
   exact hall j (by omega)
  refine c_exit ?_
  refine c_seq ?_
  refine c_ops ?_
  refine as' rfl rfl rfl rfl ?_
  refine l_nil ?_
  refine c_ret ?_
  exact ⟨ret_bool rfl hyes.symm, hE0.trans hE⟩
end
end Go.Proofs.YtndophlnapjkhaaGreatDoor.Vc
namespace Go.Proofs.YtndophlnapjkhaaGreatDoor.Vc
open Go Go.RowKit
set_option linter.unusedVariables false
set_option linter.unusedSimpArgs false
abbrev RW : Type := Nat × List Bool
def rcell (n : Nat) (r : RW) : Value := .slice (some ⟨r.1, 0, none⟩) n n
def rres (r : RW) : Res := .blk r.1 (.cells (r.2.map Value.bool).toArray 4 (0, 0))
def Xof (rs : List RW) (q : Int × Int) : Bool := ((rs.getD q.1.toNat (0, [])).2).getD q.2.toNat false
def setR (rs : List RW) (i k : Nat) : List RW := rs.set i ((rs.getD i (0, [])).1, (rs.getD i (0, [])).2.set k false)
def inGB (n : Nat) (q : Int × Int) : Bool := decide (0 ≤ q.1) && decide (q.1 < n) && decide (0 ≤ q.2) && decide (q.2 < n)
theorem inGB_is {n : Nat} {q : Int × Int} : inGB n q = true ↔ InG n q := by
 unfold inGB InG
 simp [and_assoc]
theorem Xof_set {rs : List RW} {i k : Nat} (q : Int × Int) (hi : i < rs.length) (hk : k < (rs.getD i (0, [])).2.length) : Xof (setR rs i k) q = if q.1.toNat = i ∧ q.2.toNat = k then false else Xof rs q := by
 unfold Xof setR
 simp only [List.getD_eq_getElem?_getD, List.getElem?_set] at hk ⊢
 by_cases h1 : i = q.1.toNat
 ·subst h1
  rw [if_pos rfl, if_pos hi]
  simp only [Option.getD_some, List.getElem?_set]
  by_cases h2 : k = q.2.toNat
  ·subst h2
   rw [if_pos rfl, if_pos hk, if_pos ⟨trivial, rfl⟩]
   rfl
  ·rw [if_neg h2, if_neg (fun h => h2 h.2.symm)]
 ·rw [if_neg h1, if_neg (fun h => h1 h.1.symm)]
section
variable {g : List GNode} {st : Bool}
structure OfAt (g : List GNode) (st : Bool) (rs0 rs : List RW) (more : Bool) (i k : Nat) : Prop where
 len : rs.length = g.length
 rows : ∀ r ∈ rs, r.2.length = g.length
 le : ∀ q, InG g.length q → mayX g st q = true → Xof rs q = true
 le0 : manyX g.length (Xof rs) ≤ manyX g.length (Xof rs0)
 gone : more = true → manyX g.length (Xof rs) < manyX g.length (Xof rs0)
 same : more = false → rs = rs0 ∧ ∀ q, InG g.length q → (q.1 < i ∨ (q.1 = i ∧ q.2 < k)) → Xof rs0 q = true → holdsX g st (Xof rs0) q = true
theorem OfAt.row_len {rs0 rs : List RW} {more : Bool} {i k j : Nat} (h : OfAt g st rs0 rs more i k) (hj : j < g.length) : (rs.getD j (0, [])).2.length = g.length := by
 rw [List.getD_eq_getElem?_getD, List.getElem?_eq_getElem (by rw [h.len]; exact hj)]
 exact h.rows _ (List.getElem_mem _)
theorem OfAt.start {rs : List RW} (hl : rs.length = g.length) (hr : ∀ r ∈ rs, r.2.length = g.length) (hle : ∀ q, InG g.length q → mayX g st q = true → Xof rs q = true) : OfAt g st rs rs false 0 0 :=
 ⟨hl, hr, hle, Nat.le_refl _, (fun h => by cases h), fun _ => ⟨rfl, fun q hq h => by
  exact absurd h (by have := hq.1; have := hq.2.2.1; omega)⟩⟩
theorem OfAt.keep {rs0 rs : List RW} {more : Bool} {i k : Nat} (h : OfAt g st rs0 rs more i k) (hh : Xof rs ((i : Int), (k : Int)) = true → holdsX g st (Xof rs) ((i : Int), (k : Int)) = true) : OfAt g st rs0 rs more i (k + 1) :=
 ⟨h.len, h.rows, h.le, h.le0, h.gone, fun hm => ⟨(h.same hm).1, fun q hq hc hX => by
  by_cases he : q = ((i : Int), (k : Int))
  ·subst he
   have := (h.same hm).1
   subst this
   exact hh hX
  ·refine (h.same hm).2 q hq ?_ hX
   rcases hc with hc | ⟨h1, h2⟩
   ·exact .inl hc
   ·refine .inr ⟨h1, ?_⟩
    have : q.2 ≠ k := fun e => he (Prod.ext h1 e)
    omega⟩⟩
theorem OfAt.row {rs0 rs : List RW} {more : Bool} {i : Nat} (h : OfAt g st rs0 rs more i g.length) : OfAt g st rs0 rs more (i + 1) 0 :=
 ⟨h.len, h.rows, h.le, h.le0, h.gone, fun hm => ⟨(h.same hm).1, fun q hq hc hX => (h.same hm).2 q hq (by have := hq.2.2.2; have := hq.2.2.1; omega) hX⟩⟩
theorem OfAt.take {rs0 rs : List RW} {more : Bool} {i k : Nat} (hok : GraphOk g) (h : OfAt g st rs0 rs more i k) (hi : i < g.length) (hk : k < g.length) (hx : Xof rs ((i : Int), (k : Int)) = true) (hh : holdsX g st (Xof rs) ((i : Int), (k : Int)) = false) : OfAt g st rs0 (setR rs i k) true i (k + 1) := by
 have hil : i < rs.length := by rw [h.len]; exact hi
 have hkl : k < (rs.getD i (0, [])).2.length := by rw [h.row_len hi]; exact hk
 have hin : InG g.length ((i : Int), (k : Int)) := ⟨by simp, by simp; omega, by simp, by simp; omega⟩
 have hXs := fun q => Xof_set (rs := rs) (i := i) (k := k) q hil hkl
 have hle : manyX g.length (Xof (setR rs i k)) < manyX g.length (Xof rs) := by
  refine sum_lt _ _ _ (fun q _ => ?_) ⟨((i : Int), (k : Int)), mem_allP hin, ?_⟩
  ·rw [hXs]
   split
   ·simp
   ·exact Nat.le_refl _
  ·have h0 : Xof (setR rs i k) ((i : Int), (k : Int)) = false := by rw [hXs]; exact if_pos ⟨Int.toNat_natCast _, Int.toNat_natCast _⟩
   rw [h0, hx]
   decide
 refine ⟨by unfold setR; rw [List.length_set]; exact h.len, ?_, ?_, by have := h.le0; omega, (fun _ => by have := h.le0; omega), (fun hm => by cases hm)⟩
 ·intro r hr
  rcases List.mem_or_eq_of_mem_set hr with hr | rfl
  ·exact h.rows r hr
  ·rw [List.length_set]
   exact h.row_len hi
 ·intro q hq hm
  rw [hXs]
  split
  ·rename_i hc
   exfalso
   have he : q = ((i : Int), (k : Int)) := by
    obtain ⟨h1, _, h3, _⟩ := hq
    exact Prod.ext (by omega) (by omega)
   subst he
   rw [may_fix hok hin] at hm
   have h1 := holdsX_mono (g := g) (st := st) (X := mayX g st) (Y := fun q => Xof rs q || !inGB g.length q) (fun q hq => by
    cases hb : inGB g.length q with
    | false => simp
    | true => rw [h.le q (inGB_is.1 hb) hq]; rfl) _ hm
   rw [holdsX_congr (Y := Xof rs) hok (fun q hq => by rw [inGB_is.2 hq]; simp) hin, hh] at h1
   cases h1
  ·exact h.le q hq hm
theorem OfAt.done {rs0 rs : List RW} (hok : GraphOk g) (h : OfAt g st rs0 rs false g.length 0) : rs = rs0 ∧ ∀ q, InG g.length q → Xof rs q = mayX g st q := by
 obtain ⟨h1, h2⟩ := h.same rfl
 subst h1
 refine ⟨rfl, fun q hq => ?_⟩
 cases hm : mayX g st q with
 | true => exact h.le q hq hm
 | false =>
  cases hx : Xof rs q with
  | false => rfl
  | true =>
   have := may_great (g := g) (st := st) (R := fun q => inGB g.length q && Xof rs q) (fun q hq => by
    rw [Bool.and_eq_true, inGB_is] at hq
    rw [holdsX_congr (Y := Xof rs) hok (fun p hp => by rw [inGB_is.2 hp]; rfl) hq.1]
    exact h2 q hq.1 (.inl hq.1.2.1) hq.2) (q := q) (by rw [inGB_is.2 hq, hx]; rfl)
   rw [hm] at this
   cases this
end
abbrev OfL (xb B : Nat) (Ag : Option Addr) (n cg : Nat) (st : Bool) (isV : Value) (rs : List RW) : List Res := .blk xb (.cells #[.slice Ag n cg, .bool st, isV] 65 (0, 0)) :: .row B 62 1 isV rs.length (rs.map (rcell n)) :: rs.map rres
theorem rw_get {rs : List RW} {i : Nat} (h : i < rs.length) : rs[i]? = some (rs.getD i (0, [])) := by
 rw [List.getD_eq_getElem?_getD, List.getElem?_eq_getElem h]
 rfl
theorem bool_get {l : List Bool} {i : Nat} (h : i < l.length) : (l.map Value.bool)[i]? = some (.bool (l.getD i false)) := by
 rw [List.getElem?_map, List.getElem?_eq_getElem h, List.getD_eq_getElem?_getD, List.getElem?_eq_getElem h]
 rfl
theorem grid_of {w : World} {xb B : Nat} {Ag Ai : Option Addr} {n n' cg ci : Nat} {st : Bool} {rs : List RW} (h : Has w (OfL xb B Ag n cg st (.slice Ai n' ci) rs)) (hl : rs.length = n) (hr : ∀ r ∈ rs, r.2.length = n) : n' = n ∧ Grid w xb Ag n cg st Ai ci (Xof rs) := by
 have hb := h.get 0 rfl
 have hrow := h.row 1 rfl
 have hflat : (rs.map fun r => [rcell n r]).flatten = rs.map (rcell n) := by
  clear hl hr hrow hb h
  induction rs with
  | nil => rfl
  | cons x r ih => simpa using ih
 have hEls : Els w 1 (fun _ (r : RW) cs => cs = [rcell n r]) rs (rs.map fun r => [rcell n r]) := by
  refine ⟨by simp, fun i x cs h1 h2 => ?_⟩
  rw [List.getElem?_map, h1] at h2
  cases h2
  exact ⟨rfl, rfl⟩
 rw [← hflat] at hrow
 obtain ⟨A', c', hv, hs, _⟩ := Sl.ofRow hrow hEls rfl
 injection hv with h1 h2 h3
 subst h1; subst h3
 rw [hl] at h2
 subst h2
 refine ⟨rfl, (blk_cell hb 0).trans rfl, (blk_cell hb 1).trans rfl, (blk_cell hb 2).trans rfl, fun h0 => hs.is (by omega), fun a h0 h1 => ?_⟩
 have hal : a.toNat < rs.length := by omega
 obtain ⟨cs, _, hcs, hcell⟩ := hs.at_ a.toNat _ (rw_get hal)
 have hc0 := hcell 0 (rcell n' (rs.getD a.toNat (0, []))) (by rw [hcs]; rfl)
 rw [Nat.add_zero] at hc0
 refine ⟨_, _, hc0, fun _ => rfl, fun b hb0 hb1 => ?_⟩
 have hres := h.get (a.toNat + 2) (b := (rs.getD a.toNat (0, [])).1) (o := .cells ((rs.getD a.toNat (0, [])).2.map Value.bool).toArray 4 (0, 0)) (by
  show (rs.map rres)[a.toNat]? = _
  rw [List.getElem?_map, rw_get hal]
  rfl)
 rw [Nat.mul_one]
 show w.cell? ((⟨(rs.getD a.toNat (0, [])).1, 0, none⟩ : Addr).add b.toNat) = _
 rw [blk_add, blk_cell hres, Nat.zero_add]
 have hbl : b.toNat < (rs.getD a.toNat (0, [])).2.length := by
  have := hr _ (List.mem_of_getElem? (rw_get hal))
  omega
 exact (List.getElem?_toArray ..).trans (bool_get hbl)
theorem Grid.congr {w : World} {xb : Nat} {Ag : Option Addr} {n cg : Nat} {st : Bool} {Ai : Option Addr} {ci : Nat} {X Y : Int × Int → Bool} (h : Grid w xb Ag n cg st Ai ci X) (hX : ∀ q, InG n q → X q = Y q) : Grid w xb Ag n cg st Ai ci Y :=
 ⟨h.c0, h.c1, h.c2, h.is, fun a h0 h1 => let ⟨Ar, cr, h2, h3, h4⟩ := h.row a h0 h1; ⟨Ar, cr, h2, h3, fun b hb0 hb1 => by rw [← hX (a, b) ⟨h0, h1, hb0, hb1⟩]; exact h4 b hb0 hb1⟩⟩
def upRow (n k : Nat) : List Value := (List.range n).map fun (j : Nat) => Value.bool (decide (j < k))
theorem upRow_set {n k : Nat} (hk : k < n) : (upRow n k).set k (.bool true) = upRow n (k + 1) := by
 apply List.ext_getElem?
 intro i
 have hlen : (upRow n k).length = n := by simp [upRow]
 rw [List.getElem?_set, hlen]
 unfold upRow
 simp only [List.getElem?_map]
 by_cases h : k = i
 ·subst h
  rw [if_pos rfl, if_pos hk, List.getElem?_range hk]
  simp
 ·rw [if_neg h]
  rcases Nat.lt_or_ge i n with hi | hi
  ·rw [List.getElem?_range hi]
   simp only [Option.map_some]
   congr 2
   exact decide_eq_decide.2 (by omega)
  ·rw [List.getElem?_eq_none (by simp; exact hi)]
   rfl
theorem upRow_zero (n : Nat) : (madeCells #[Value.bool false] (n * 1)) = (upRow n 0).toArray := by
 rw [made_none]
 unfold inCells upRow
 simp
theorem upRow_full (n : Nat) : upRow n n = (List.replicate n true).map Value.bool := by
 apply List.ext_getElem?
 intro i
 unfold upRow
 simp only [List.getElem?_map, List.getElem?_replicate]
 rcases Nat.lt_or_ge i n with hi | hi
 ·rw [List.getElem?_range hi, if_pos hi]
  simp [hi]
 ·rw [List.getElem?_eq_none (by simp; exact hi), if_neg (by omega)]
  rfl
theorem info_bools : (Tryz.prog.info? 62).map (fun i => (i.zero, i.size, i.bytes)) = some (some (.slice none 0 0), 1, 24) := by kernel_rfl
theorem built_pairs8 (A : Option Addr) (n c : Nat) (st : Bool) : Tryz.prog.built 65 [(0, .slice A n c), (1, .bool st)] = some #[.slice A n c, .bool st, .slice none 0 0] := by kernel_rfl
theorem ofl_set {xb B : Nat} {Ag : Option Addr} {n cg : Nat} {st : Bool} {isV : Value} {rs : List RW} {i k : Nat} (hi : i < rs.length) : (OfL xb B Ag n cg st isV rs).set (i + 2) (.blk (rs.getD i (0, [])).1 (.cells (((rs.getD i (0, [])).2.map Value.bool).set k (.bool false)).toArray 4 (0, 0))) = OfL xb B Ag n cg st isV (setR rs i k) := by
 unfold OfL setR
 have h1 : (rs.set i ((rs.getD i (0, [])).1, (rs.getD i (0, [])).2.set k false)).map (rcell n) = rs.map (rcell n) := by
  rw [List.map_set]
  apply List.ext_getElem?
  intro j
  rw [List.getElem?_set]
  split
  ·rename_i e
   subst e
   rw [List.length_map, if_pos hi, List.getElem?_map, rw_get hi]
   rfl
  ·rfl
 rw [h1, List.length_set, List.set_cons_succ, List.set_cons_succ, List.map_set]
 congr 4
 simp [List.map_set]
theorem ofl_snoc {w : World} {xb B s : Nat} {Ag : Option Addr} {n cg : Nat} {st : Bool} {isV : Value} {rs : List RW} (h : Has w (.blk s (.cells (upRow n n).toArray 4 (0, 0)) :: .blk xb (.cells #[.slice Ag n cg, .bool st, isV] 65 (0, 0)) :: .row B 62 1 isV (rs.length + 1) (rs.map (rcell n) ++ [.slice (some ⟨s, 0, none⟩) n n]) :: rs.map rres)) : Has w (OfL xb B Ag n cg st isV (rs ++ [(s, List.replicate n true)])) := by
 unfold OfL
 rw [List.map_append, List.map_append, List.length_append]
 rw [upRow_full] at h
 exact Has.perm ((List.perm_append_comm (l₁ := [_]) (l₂ := [_, _])).append_right _ |>.trans ((List.Perm.cons _ (List.Perm.cons _ (List.perm_append_comm (l₁ := [_]) (l₂ := rs.map rres)))))) h
theorem setR_base {rs : List RW} {i k B : Nat} (h : ∀ r ∈ rs, B ≤ r.1) (hi : i < rs.length) : ∀ r ∈ setR rs i k, B ≤ r.1 := by
 intro r hr
 unfold setR at hr
 rcases List.mem_or_eq_of_mem_set hr with hr | rfl
 ·exact h r hr
 ·exact (show B ≤ (rs.getD i (0, [])).1 from h _ (List.mem_of_getElem? (rw_get hi)))
theorem ofl_cell {w : World} {xb B : Nat} {Ag Ai : Option Addr} {n n' cg ci : Nat} {st : Bool} {rs : List RW} (h : Has w (OfL xb B Ag n cg st (.slice Ai n' ci) rs)) {i : Nat} (hi : i < rs.length) : w.cell? ((adr Ai).add ((i : Int).toNat * 1)) = some (.slice (some ⟨(rs.getD i (0, [])).1, 0, none⟩) n n) := by
 have hrow := h.row 1 rfl
 have hflat : (rs.map fun r => [rcell n r]).flatten = rs.map (rcell n) := by
  clear hrow h hi
  induction rs with
  | nil => rfl
  | cons x r ih => simpa using ih
 have hEls : Els w 1 (fun _ (r : RW) cs => cs = [rcell n r]) rs (rs.map fun r => [rcell n r]) := by
  refine ⟨by simp, fun i x cs h1 h2 => ?_⟩
  rw [List.getElem?_map, h1] at h2
  cases h2
  exact ⟨rfl, rfl⟩
 rw [← hflat] at hrow
 obtain ⟨A', c', hv, hs, _⟩ := Sl.ofRow hrow hEls rfl
 injection hv with h1 h2 h3
 subst h1; subst h3
 obtain ⟨cs, _, hcs, hcell⟩ := hs.at_ i _ (rw_get hi)
 have hc0 := hcell 0 (rcell n (rs.getD i (0, []))) (by rw [hcs]; rfl)
 rw [Nat.add_zero] at hc0
 exact hc0
theorem ofl_bool {w : World} {xb B : Nat} {Ag : Option Addr} {n cg : Nat} {st : Bool} {isV : Value} {rs : List RW} (h : Has w (OfL xb B Ag n cg st isV rs)) {i k : Nat} (hi : i < rs.length) (hk : k < (rs.getD i (0, [])).2.length) : w.cell? ((⟨(rs.getD i (0, [])).1, 0, none⟩ : Addr).add ((k : Int).toNat * 1)) = some (.bool (Xof rs ((i : Int), (k : Int)))) := by
 have hres := h.get (i + 2) (b := (rs.getD i (0, [])).1) (o := .cells ((rs.getD i (0, [])).2.map Value.bool).toArray 4 (0, 0)) (by
  show (rs.map rres)[i]? = _
  rw [List.getElem?_map, rw_get hi]
  rfl)
 rw [Nat.mul_one, blk_add, blk_cell hres, Nat.zero_add]
 exact (List.getElem?_toArray ..).trans (bool_get hk)
theorem row_rw {xb B : Nat} {Ag : Option Addr} {n cg : Nat} {st : Bool} {isV : Value} {rs : List RW} {i : Nat} (hi : i < rs.length) : (OfL xb B Ag n cg st isV rs)[i + 2]? = some (.blk (rs.getD i (0, [])).1 (.cells ((rs.getD i (0, [])).2.map Value.bool).toArray 4 (0, 0))) := by
 show (rs.map rres)[i]? = _
 rw [List.getElem?_map, rw_get hi]
 rfl
end Go.Proofs.YtndophlnapjkhaaGreatDoor.Vc
namespace Go.Proofs.YtndophlnapjkhaaGreatDoor.Vc
open Go Go.RowKit
set_option linter.unusedVariables false
set_option linter.unusedSimpArgs false
theorem fill_one (A : Option Addr) (n c : Nat) : Instr.fill (fun i => some (i * 1, 1)) ((List.range (1 * 1)).map ((Value.slice none 0 0).cells[· % (Value.slice none 0 0).cells.size]!)).toArray [(0, .slice A n c)] = some #[.slice A n c] := by rfl
theorem Xof_true {rs : List RW} {n : Nat} (hl : rs.length = n) (hr : ∀ r ∈ rs, r.2 = List.replicate n true) {q : Int × Int} (hq : InG n q) : Xof rs q = true := by
 obtain ⟨h0, h1, h2, h3⟩ := hq
 unfold Xof
 have := hr _ (List.mem_of_getElem? (rw_get (rs := rs) (i := q.1.toNat) (by omega)))
 rw [this, List.getD_eq_getElem?_getD, List.getElem?_replicate, if_pos (by omega)]
 rfl
set_option maxHeartbeats 4000000 in
theorem Of_rcalls (w0 : World) (Ag : Option Addr) (cg : Nat) (g : List GNode) (hg : Nodes w0 Ag cg g) (hok : GraphOk g) (hn : g.length ≤ 1000000) (st : Bool) :
    Calls Tryz.prog 31 [.slice Ag g.length cg, .bool st].toArray w0 fun en w' => ∃ xb Ai ci, en = .returned (.pointer (some ⟨xb, 0, none⟩)) ∧ Grid w' xb Ag g.length cg st Ai ci (mayX g st) ∧ Ext0 w0 w' := by
 have hE : Ext0 w0 w0 := Ext.refl _ _
 have hL : Has w0 [] := trivial
 refine calls [4] Tryz.func31 rfl rfl rfl rfl ?_
 refine c_seq ?_
 refine c_ops ?_
 refine as' rfl rfl rfl rfl ?_
 refine l_nil ?_
 refine c_seq ?_
 refine c_ops ?_
 refine mv' rfl rfl rfl rfl ?_
 refine mv' rfl rfl rfl rfl ?_
 refine l_val rfl rfl rfl (r_build rfl rfl (built_pairs8 _ _ _ _)) ?_
 refine l_new rfl rfl rfl (n_box rfl hL hE) ?_
 rintro _ w ⟨b16, rfl, hb16, hL, hE, hX⟩
 refine as' rfl rfl rfl rfl ?_
 refine l_nil ?_
 refine c_seq ?_
 refine c_seq ?_
 refine c_ops ?_
 refine as' rfl rfl rfl rfl ?_
 refine l_nil ?_
 refine c_block ?_
 refine c_loop0 (fun m1 e w => (e 0 = .slice Ag g.length cg ∧ e 5 = .pointer (some ⟨b16, 0, none⟩)) ∧ ∃ (i : Nat) (isV : Value) (rs : List RW), i ≤ g.length ∧ m1 = g.length - i ∧ e 6 = .int .i64 (i : Nat) ∧ rs.length = i ∧ (∀ r ∈ rs, r.2 = List.replicate g.length true ∧ w0.heap.size ≤ r.1) ∧ Has w (OfL b16 w0.heap.size Ag g.length cg st isV rs) ∧ Ext0 w0 w) (g.length) ?_ ?_
 ·exact ⟨⟨rfl, rfl⟩, 0, .slice none 0 0, [], Nat.zero_le _, rfl, rfl, rfl, fun r hr => absurd hr (by simp), Has.perm (List.Perm.swap _ _ _) (hL.nilRow w0.heap.size 62 1), hE⟩
 rintro m1 e w ⟨⟨hq0, hq5⟩, hI⟩
 refine c_know (t := 0) (by exact hq0) ?_
 refine c_know (t := 5) (by exact hq5) ?_
 clear hq0 hq5
 obtain ⟨i, isV, rs, hil, him, h6s, hrl, hrs, hL, hE⟩ := hI
 refine c_know (t := 6) (by exact h6s) ?_
 refine c_seq ?_
 refine c_seq ?_
 refine c_ops ?_
 refine mv' rfl rfl rfl rfl ?_
 refine mv' rfl rfl rfl rfl ?_
 refine l_val rfl rfl rfl (r_len rfl Tryz.underlying22 rfl) ?_
 refine l_val rfl rfl rfl (r_lss rfl rfl rfl) ?_
 refine l_nil ?_
 refine c_cond rfl (fun hb => ?_) (fun hb => ?_)
 ·have hr20 := hb
  replace hb := of_decide_eq_true hb
  have hilt : i < g.length := by omega
  refine c_skip ?_
  refine c_seq ?_
  refine c_block ?_
  refine c_seq ?_
  refine c_ops ?_
  refine mv' rfl rfl rfl rfl ?_
  refine l_val rfl rfl rfl (r_len rfl Tryz.underlying22 rfl) ?_
  refine l_new rfl rfl rfl (n_make rfl Tryz.underlying62 info_bool rfl rfl hL hE (by omega) (by omega)) ?_
  rintro _ w ⟨s25, rfl, hs25, hL, hE, hX⟩
  replace hL : Has w (.blk s25 (.cells (upRow g.length 0).toArray 4 (0, 0)) :: OfL b16 w0.heap.size Ag g.length cg st isV rs) := by rw [← upRow_zero]; exact hL
  refine as' rfl rfl rfl rfl ?_
  refine l_nil ?_
  refine c_seq ?_
  refine c_seq ?_
  refine c_ops ?_
  refine as' rfl rfl rfl rfl ?_
  refine l_nil ?_
  refine c_block ?_
  refine c_loop0 (fun m1 e w => (e 0 = .slice Ag g.length cg ∧ e 5 = .pointer (some ⟨b16, 0, none⟩) ∧ e 6 = .int .i64 (i : Nat) ∧ e 7 = .slice (some ⟨s25, 0, none⟩) g.length g.length) ∧ ∃ (k : Nat), k ≤ g.length ∧ m1 = g.length - k ∧ e 8 = .int .i64 (k : Nat) ∧ Has w (.blk s25 (.cells (upRow g.length k).toArray 4 (0, 0)) :: OfL b16 w0.heap.size Ag g.length cg st isV rs) ∧ Ext0 w0 w) (g.length) ?_ ?_
  ·exact ⟨⟨rfl, rfl, rfl, rfl⟩, 0, Nat.zero_le _, rfl, rfl, hL, hE⟩
  rintro m1 e w ⟨⟨hq0, hq5, hq6, hq7⟩, hI⟩
  refine c_know (t := 0) (by exact hq0) ?_
  refine c_know (t := 5) (by exact hq5) ?_
  refine c_know (t := 6) (by exact hq6) ?_
  refine c_know (t := 7) (by exact hq7) ?_
  clear hq0 hq5 hq6 hq7
  obtain ⟨k, hkl, hkm, h8s, hL, hE⟩ := hI
  refine c_know (t := 8) (by exact h8s) ?_
  refine c_seq ?_
  refine c_seq ?_
  refine c_ops ?_
  refine mv' rfl rfl rfl rfl ?_
  refine mv' rfl rfl rfl rfl ?_
  refine l_val rfl rfl rfl (r_len rfl Tryz.underlying22 rfl) ?_
  refine l_val rfl rfl rfl (r_lss rfl rfl rfl) ?_
  refine l_nil ?_
  refine c_cond rfl (fun hb => ?_) (fun hb => ?_)
  ·have hr29 := hb
   replace hb := of_decide_eq_true hb
   have hklt : k < g.length := by omega
   refine c_skip ?_
   refine c_seq ?_
   refine c_block ?_
   refine c_ops ?_
   refine mv' rfl rfl rfl rfl ?_
   refine mv' rfl rfl rfl rfl ?_
   refine l_val rfl rfl rfl (r_indexAddr rfl Tryz.underlying62 Tryz.sizeOf4 rfl rfl (by omega) (by omega)) ?_
   refine l_new_do rfl rfl (r_store1 (v := .bool true) 0 rfl Tryz.sizeOf4 rfl rfl rfl rfl hL hE rfl (by simp [upRow]; omega) (fun h => absurd h (Nat.not_lt.2 hs25))) ?_
   rintro w ⟨hL, hE, hz, hk'⟩
   rw [Nat.mul_one, Int.toNat_natCast, upRow_set hklt] at hL
   refine l_nil ?_
   refine c_ops ?_
   refine mv' rfl rfl rfl rfl ?_
   refine l_val rfl rfl rfl (r_add rfl rfl rfl) ?_
   refine as' rfl rfl rfl rfl ?_
   refine l_nil ?_
   exact ⟨g.length - (k + 1), by omega, ⟨rfl, rfl, rfl, rfl⟩, k + 1, by omega, rfl, by show Value.int .i64 (IntKind.i64.wrap ((k : Int) + 1)) = _; rw [wrap_succ hklt hg.max], hL, hE⟩
  ·have hr29 := hb
   replace hb := of_decide_eq_false hb
   obtain rfl : k = g.length := by omega
   refine c_exit ?_
   refine c_ops ?_
   refine mv' rfl rfl rfl rfl ?_
   refine mv' rfl rfl rfl rfl ?_
   refine l_val rfl rfl rfl (r_nilCheck rfl rfl) ?_
   refine l_val rfl rfl rfl (r_fieldAddr (n := 0) rfl Tryz.underlying65 rfl Tryz.sizeOf63 rfl) ?_
   refine l_val rfl rfl rfl (r_load_blk rfl Tryz.isAgg63 rfl (hL.get 1 rfl) rfl) ?_
   refine mv' rfl rfl rfl rfl ?_
   refine l_new rfl rfl rfl (n_slice (cells := #[.slice (some ⟨s25, 0, none⟩) g.length g.length]) rfl Tryz.underlying63 Tryz.sizeOf62 Tryz.zeroValue62 rfl rfl (fill_one _ _ _) hL hE) ?_
   rintro _ w ⟨s41, rfl, hs41, hL, hE, hX⟩
   refine l_new rfl rfl rfl (r_append (ys := [.slice (some ⟨s25, 0, none⟩) g.length g.length]) 3 rfl Tryz.underlying63 info_bools rfl (by decide) rfl rfl hL hE rfl rfl (blk_raw (cs := #[.slice (some ⟨s25, 0, none⟩) g.length g.length]) (hL.get 0 rfl) rfl) (fun u hu => by rw [List.mem_singleton] at hu; rw [hu]; rfl) (by omega) (by omega) (Nat.le_refl _) hE.size) ?_
   rintro _ w ⟨hL, hE, hk⟩
   obtain ⟨A4, c4, rfl⟩ := ownsRow_slice (hL.row 3 rfl)
   refine l_val rfl rfl rfl (r_nilCheck rfl rfl) ?_
   refine l_val rfl rfl rfl (r_fieldAddr (n := 0) rfl Tryz.underlying65 rfl Tryz.sizeOf63 rfl) ?_
   refine l_new_do rfl rfl (r_store 2 rfl Tryz.sizeOf63 rfl hL hE rfl rfl rfl rfl (fun h => absurd h (Nat.not_lt.2 hb16))) ?_
   rintro w ⟨hL, hE, hz, hk'⟩
   refine l_nil ?_
   refine c_ops ?_
   refine mv' rfl rfl rfl rfl ?_
   refine l_val rfl rfl rfl (r_add rfl rfl rfl) ?_
   refine as' rfl rfl rfl rfl ?_
   refine l_nil ?_
   exact ⟨g.length - (i + 1), by omega, ⟨rfl, rfl⟩, i + 1, _, rs ++ [(s25, List.replicate g.length true)], by omega, rfl, by show Value.int .i64 (IntKind.i64.wrap ((i : Int) + 1)) = _; rw [wrap_succ hilt hg.max], by simp [hrl], fun r hr => by rcases List.mem_append.1 hr with hr | hr <;> first | exact hrs r hr | (rw [List.mem_singleton] at hr; subst hr; exact ⟨rfl, hs25⟩), ofl_snoc hL.tail, hE⟩
 ·have hr20 := hb
  replace hb := of_decide_eq_false hb
  obtain ⟨Ai, ci, rfl⟩ := ownsRow_slice (hL.row 1 rfl)
  have hrl2 : rs.length = g.length := by omega
  clear hrl
  have hrl := hrl2
  rw [hrl] at hL
  refine c_exit ?_
  refine c_seq ?_
  refine c_seq ?_
  refine c_ops ?_
  refine as' rfl rfl rfl rfl ?_
  refine l_nil ?_
  refine c_block ?_
  refine c_loop0 (fun m1 e w => (e 0 = .slice Ag g.length cg ∧ e 5 = .pointer (some ⟨b16, 0, none⟩)) ∧ ∃ (rs : List RW) (b : Bool), e 9 = .bool b ∧ rs.length = g.length ∧ (∀ r ∈ rs, r.2.length = g.length) ∧ (∀ r ∈ rs, w0.heap.size ≤ r.1) ∧ (∀ q, InG g.length q → mayX g st q = true → Xof rs q = true) ∧ (b = false → ∀ q, InG g.length q → Xof rs q = mayX g st q) ∧ m1 = manyX g.length (Xof rs) + b.toNat ∧ Has w (OfL b16 w0.heap.size Ag g.length cg st (.slice Ai g.length ci) rs) ∧ Ext0 w0 w) (manyX g.length (Xof rs) + 1) ?_ ?_
  ·exact ⟨⟨rfl, rfl⟩, rs, true, rfl, hrl, fun r hr => by rw [(hrs r hr).1]; simp, fun r hr => (hrs r hr).2, fun q hq _ => Xof_true hrl (fun r hr => (hrs r hr).1) hq, (fun h => by cases h), rfl, hL, hE⟩
  rintro m1 e w ⟨⟨hq0, hq5⟩, hI⟩
  refine c_know (t := 0) (by exact hq0) ?_
  refine c_know (t := 5) (by exact hq5) ?_
  clear hq0 hq5
  clear hrl hrs
  obtain ⟨rs0, b, h9, hrl, hrs, hrb, hle, hdone, hm1, hL, hE⟩ := hI
  refine c_know (t := 9) (by exact h9) ?_
  refine c_seq ?_
  refine c_seq ?_
  refine c_ops ?_
  refine mv' rfl rfl rfl rfl ?_
  refine l_nil ?_
  refine c_cond rfl (fun hb => ?_) (fun hb => ?_)
  ·have hr45 := hb
   refine c_skip ?_
   refine c_block ?_
   refine c_seq ?_
   refine c_ops ?_
   refine as' rfl rfl rfl rfl ?_
   refine l_nil ?_
   refine c_seq ?_
   refine c_ops ?_
   refine as' rfl rfl rfl rfl ?_
   refine l_nil ?_
   refine c_block ?_
   refine c_loop0 (fun m1 e w => (e 0 = .slice Ag g.length cg ∧ e 5 = .pointer (some ⟨b16, 0, none⟩)) ∧ ∃ (i : Nat) (rs : List RW) (more : Bool), i ≤ g.length ∧ m1 = g.length - i ∧ e 10 = .int .i64 (i : Nat) ∧ e 9 = .bool more ∧ OfAt g st rs0 rs more i 0 ∧ (∀ r ∈ rs, w0.heap.size ≤ r.1) ∧ Has w (OfL b16 w0.heap.size Ag g.length cg st (.slice Ai g.length ci) rs) ∧ Ext0 w0 w) g.length ?_ ?_
   ·exact ⟨⟨rfl, rfl⟩, 0, rs0, false, Nat.zero_le _, rfl, rfl, rfl, OfAt.start hrl hrs hle, hrb, hL, hE⟩
   rintro m1 e w ⟨⟨hq0, hq5⟩, hI⟩
   refine c_know (t := 0) (by exact hq0) ?_
   refine c_know (t := 5) (by exact hq5) ?_
   clear hq0 hq5
   clear hrb
   obtain ⟨i, rs, more, hil, him, h10, h9, hO, hrb, hL, hE⟩ := hI
   refine c_know (t := 9) (by exact h9) ?_
   refine c_know (t := 10) (by exact h10) ?_
   refine c_seq ?_
   refine c_seq ?_
   refine c_ops ?_
   refine mv' rfl rfl rfl rfl ?_
   refine mv' rfl rfl rfl rfl ?_
   refine l_val rfl rfl rfl (r_len rfl Tryz.underlying22 rfl) ?_
   refine l_val rfl rfl rfl (r_lss rfl rfl rfl) ?_
   refine l_nil ?_
   refine c_cond rfl (fun hb => ?_) (fun hb => ?_)
   ·have hr49 := hb
    replace hb := of_decide_eq_true hb
    have hilt : i < g.length := by omega
    refine c_skip ?_
    refine c_seq ?_
    refine c_block ?_
    refine c_seq ?_
    refine c_ops ?_
    refine as' rfl rfl rfl rfl ?_
    refine l_nil ?_
    refine c_block ?_
    refine c_loop0 (fun m1 e w => (e 0 = .slice Ag g.length cg ∧ e 5 = .pointer (some ⟨b16, 0, none⟩) ∧ e 10 = .int .i64 (i : Nat)) ∧ ∃ (k : Nat) (rs : List RW) (more : Bool), k ≤ g.length ∧ m1 = g.length - k ∧ e 11 = .int .i64 (k : Nat) ∧ e 9 = .bool more ∧ OfAt g st rs0 rs more i k ∧ (∀ r ∈ rs, w0.heap.size ≤ r.1) ∧ Has w (OfL b16 w0.heap.size Ag g.length cg st (.slice Ai g.length ci) rs) ∧ Ext0 w0 w) g.length ?_ ?_
    ·exact ⟨⟨rfl, rfl, rfl⟩, 0, rs, more, Nat.zero_le _, rfl, rfl, rfl, hO, hrb, hL, hE⟩
    rintro m1 e w ⟨⟨hq0, hq5, hq10⟩, hI⟩
    refine c_know (t := 0) (by exact hq0) ?_
    refine c_know (t := 5) (by exact hq5) ?_
    refine c_know (t := 10) (by exact hq10) ?_
    clear hq0 hq5 hq10
    clear hO hrb
    obtain ⟨k, rs, more, hkl, hkm, h11, h9, hO, hrb, hL, hE⟩ := hI
    refine c_know (t := 9) (by exact h9) ?_
    refine c_know (t := 11) (by exact h11) ?_
    refine c_seq ?_
    refine c_seq ?_
    refine c_ops ?_
    refine mv' rfl rfl rfl rfl ?_
    refine mv' rfl rfl rfl rfl ?_
    refine l_val rfl rfl rfl (r_len rfl Tryz.underlying22 rfl) ?_
    refine l_val rfl rfl rfl (r_lss rfl rfl rfl) ?_
    refine l_nil ?_
    refine c_cond rfl (fun hb => ?_) (fun hb => ?_)
    ·have hr55 := hb
     replace hb := of_decide_eq_true hb
     have hklt : k < g.length := by omega
     have hir : i < rs.length := by rw [hO.len]; exact hilt
     have hkr : k < (rs.getD i (0, [])).2.length := by rw [hO.row_len hilt]; exact hklt
     have hG := (grid_of hL hO.len hO.rows).2
     have hin : InG g.length ((i : Int), (k : Int)) := ⟨by simp, by simp; omega, by simp, by simp; omega⟩
     refine c_skip ?_
     refine c_seq ?_
     refine c_block ?_
     refine c_seq ?_
     refine c_ops ?_
     refine mv' rfl rfl rfl rfl ?_
     refine l_val rfl rfl rfl (r_nilCheck rfl rfl) ?_
     refine l_val rfl rfl rfl (r_fieldAddr (n := 0) rfl Tryz.underlying65 rfl Tryz.sizeOf63 rfl) ?_
     refine l_val rfl rfl rfl (r_load_blk rfl Tryz.isAgg63 rfl (hL.get 0 rfl) rfl) ?_
     refine mv' rfl rfl rfl rfl ?_
     refine l_val rfl rfl rfl (r_indexAddr_sl rfl Tryz.underlying63 Tryz.sizeOf62 rfl hG.is rfl (by omega) (by omega)) ?_
     refine l_val rfl rfl rfl (r_load (v := .slice (some ⟨(rs.getD i (0, [])).1, 0, none⟩) g.length g.length) rfl Tryz.isAgg62 rfl (ofl_cell hL hir)) ?_
     refine mv' rfl rfl rfl rfl ?_
     refine l_val rfl rfl rfl (r_indexAddr rfl Tryz.underlying62 Tryz.sizeOf4 rfl rfl (by omega) (by omega)) ?_
     refine l_val rfl rfl rfl (r_load (v := .bool (Xof rs ((i : Int), (k : Int)))) rfl Tryz.isAgg4 rfl (ofl_bool hL hir hkr)) ?_
     refine mv' rfl rfl rfl rfl ?_
     refine l_case 68 rfl (fun hb => ?_) (fun hb => ?_)
     ·have hr68 := hb
      refine mv' rfl rfl rfl rfl ?_
      refine mv' rfl rfl rfl rfl ?_
      refine mv' rfl rfl rfl rfl ?_
      refine l_by rfl rfl rfl (r_call rfl rfl Tryz.func55 rfl rfl) (stands_rcalls _ hG (hg.keep RNode.kept (Ext0.cells hE)) hok ((i : Int), (k : Int)) hin) ?_
      rintro _ w ⟨rfl, hX⟩
      replace hL := hL.ext0 hX
      replace hE := hE.step0 hX
      refine ⟨_, rfl, ?_⟩
      refine l_val rfl rfl rfl (r_not rfl rfl) ?_
      refine l_val rfl rfl rfl (r_pick rfl rfl) ?_
      refine l_nil ?_
      refine c_cond rfl (fun hb => ?_) (fun hb => ?_)
      ·have hr74 := hb
       have hO2 := hO.take hok hilt hklt hr68 (by simpa using hb)
       refine c_seq ?_
       refine c_ops ?_
       refine mv' rfl rfl rfl rfl ?_
       refine l_val rfl rfl rfl (r_nilCheck rfl rfl) ?_
       refine l_val rfl rfl rfl (r_fieldAddr (n := 0) rfl Tryz.underlying65 rfl Tryz.sizeOf63 rfl) ?_
       refine l_val rfl rfl rfl (r_load_blk rfl Tryz.isAgg63 rfl (hL.get 0 rfl) rfl) ?_
       refine mv' rfl rfl rfl rfl ?_
       refine l_val rfl rfl rfl (r_indexAddr_sl rfl Tryz.underlying63 Tryz.sizeOf62 rfl hG.is rfl (by omega) (by omega)) ?_
       refine l_val rfl rfl rfl (r_load (v := .slice (some ⟨(rs.getD i (0, [])).1, 0, none⟩) g.length g.length) rfl Tryz.isAgg62 rfl (ofl_cell hL hir)) ?_
       refine as' rfl rfl rfl rfl ?_
       refine l_nil ?_
       refine c_seq ?_
       refine c_ops ?_
       refine mv' rfl rfl rfl rfl ?_
       refine mv' rfl rfl rfl rfl ?_
       refine l_val rfl rfl rfl (r_indexAddr rfl Tryz.underlying62 Tryz.sizeOf4 rfl rfl (by omega) (by omega)) ?_
       refine l_new_do rfl rfl (r_store1 (v := .bool false) (i + 2) rfl Tryz.sizeOf4 rfl rfl rfl rfl hL hE (row_rw hir) (by rw [List.length_map, Nat.mul_one, Int.toNat_natCast]; omega) (fun h => absurd h (Nat.not_lt.2 (hrb _ (List.mem_of_getElem? (rw_get hir)))))) ?_
       rintro w ⟨hL, hE, hz, hk'⟩
       rw [Nat.mul_one, Int.toNat_natCast, ofl_set hir] at hL
       refine l_nil ?_
       refine c_ops ?_
       refine as' rfl rfl rfl rfl ?_
       refine l_nil ?_
       refine c_ops ?_
       refine mv' rfl rfl rfl rfl ?_
       refine l_val rfl rfl rfl (r_add rfl rfl rfl) ?_
       refine as' rfl rfl rfl rfl ?_
       refine l_nil ?_
       first | exact ⟨g.length - (k + 1), by omega, ⟨rfl, rfl, rfl⟩, k + 1, setR rs i k, true, by omega, rfl, by show Value.int .i64 (IntKind.i64.wrap ((k : Int) + 1)) = _; rw [wrap_succ hklt hg.max], rfl, hO2, setR_base hrb hir, hL, hE⟩ | exact ⟨g.length - (k + 1), by omega, ⟨rfl, rfl, rfl⟩, k + 1, rs, more, by omega, rfl, by show Value.int .i64 (IntKind.i64.wrap ((k : Int) + 1)) = _; rw [wrap_succ hklt hg.max], rfl, hO3, hrb, hL, hE⟩
      ·have hr74 := hb
       have hO3 := hO.keep (fun _ => by simpa using hb)
       refine c_skip ?_
       refine c_ops ?_
       refine mv' rfl rfl rfl rfl ?_
       refine l_val rfl rfl rfl (r_add rfl rfl rfl) ?_
       refine as' rfl rfl rfl rfl ?_
       refine l_nil ?_
       first | exact ⟨g.length - (k + 1), by omega, ⟨rfl, rfl, rfl⟩, k + 1, setR rs i k, true, by omega, rfl, by show Value.int .i64 (IntKind.i64.wrap ((k : Int) + 1)) = _; rw [wrap_succ hklt hg.max], rfl, hO2, setR_base hrb hir, hL, hE⟩ | exact ⟨g.length - (k + 1), by omega, ⟨rfl, rfl, rfl⟩, k + 1, rs, more, by omega, rfl, by show Value.int .i64 (IntKind.i64.wrap ((k : Int) + 1)) = _; rw [wrap_succ hklt hg.max], rfl, hO3, hrb, hL, hE⟩
     ·have hr68 := hb
      have hO3 := hO.keep (fun h => by rw [hb] at h; cases h)
      refine l_not rfl rfl rfl ?_
      refine l_not rfl rfl rfl ?_
      refine l_not rfl rfl rfl ?_
      refine l_not rfl rfl rfl ?_
      refine l_not rfl rfl rfl ?_
      refine l_val rfl rfl rfl (r_pick rfl rfl) ?_
      refine l_nil ?_
      refine c_no rfl ?_
      refine c_skip ?_
      refine c_ops ?_
      refine mv' rfl rfl rfl rfl ?_
      refine l_val rfl rfl rfl (r_add rfl rfl rfl) ?_
      refine as' rfl rfl rfl rfl ?_
      refine l_nil ?_
      first | exact ⟨g.length - (k + 1), by omega, ⟨rfl, rfl, rfl⟩, k + 1, setR rs i k, true, by omega, rfl, by show Value.int .i64 (IntKind.i64.wrap ((k : Int) + 1)) = _; rw [wrap_succ hklt hg.max], rfl, hO2, setR_base hrb hir, hL, hE⟩ | exact ⟨g.length - (k + 1), by omega, ⟨rfl, rfl, rfl⟩, k + 1, rs, more, by omega, rfl, by show Value.int .i64 (IntKind.i64.wrap ((k : Int) + 1)) = _; rw [wrap_succ hklt hg.max], rfl, hO3, hrb, hL, hE⟩
    ·have hr55 := hb
     replace hb := of_decide_eq_false hb
     obtain rfl : k = g.length := by omega
     refine c_exit ?_
     refine c_ops ?_
     refine mv' rfl rfl rfl rfl ?_
     refine l_val rfl rfl rfl (r_add rfl rfl rfl) ?_
     refine as' rfl rfl rfl rfl ?_
     refine l_nil ?_
     exact ⟨g.length - (i + 1), by omega, ⟨rfl, rfl⟩, i + 1, rs, more, by omega, rfl, by show Value.int .i64 (IntKind.i64.wrap ((i : Int) + 1)) = _; rw [wrap_succ hilt hg.max], rfl, hO.row, hrb, hL, hE⟩
   ·have hr49 := hb
    replace hb := of_decide_eq_false hb
    obtain rfl : i = g.length := by omega
    refine c_exit ?_
    refine ⟨manyX g.length (Xof rs) + more.toNat, ?_, ⟨rfl, rfl⟩, rs, more, rfl, hO.len, hO.rows, hrb, hO.le, ?_, rfl, hL, hE⟩
    ·have hh := hO.gone
     have := hO.le0
     rw [hm1, hr45]
     cases more with
     | true => have := hh rfl; simp; omega
     | false => simp; omega
    ·intro hmo
     subst hmo
     exact (OfAt.done hok hO).2
  ·have hr45 := hb
   have hG := (grid_of hL hrl hrs).2.congr (hdone hb)
   refine c_exit ?_
   refine c_seq ?_
   refine c_ops ?_
   refine mv' rfl rfl rfl rfl ?_
   refine as' rfl rfl rfl rfl ?_
   refine l_nil ?_
   refine c_ret ?_
   exact ⟨b16, Ai, ci, rfl, hG, hE⟩
end Go.Proofs.YtndophlnapjkhaaGreatDoor.Vc
namespace Go.Proofs.YtndophlnapjkhaaGreatDoor.Vc
open Go Go.RowKit
set_option linter.unusedVariables false
set_option linter.unusedSimpArgs false
theorem numbers_rcalls (w0 : World) (nl : Nat) (A : Option Addr) (n c : Nat) (l : List Int) (hl : Sl w0 1 RInt A n c l) :
    Calls Tryz.prog 62 [.int .i64 (nl : Nat), .slice A n c].toArray w0 fun en w' => en = .returned (.bool (!l.any (outB nl))) ∧ Ext0 w0 w' := by
 have hE : Ext0 w0 w0 := Ext.refl _ _
 have hlen := hl.len
 subst hlen
 refine calls [4] Tryz.func62 rfl rfl rfl rfl ?_
 refine c_seq ?_
 refine c_ops ?_
 refine as' rfl rfl rfl rfl ?_
 refine l_nil ?_
 refine c_seq ?_
 refine c_seq ?_
 refine c_ops ?_
 refine as' rfl rfl rfl rfl ?_
 refine l_nil ?_
 refine c_block ?_
 refine c_loop [4, 5, 6, 7, 8, 9, 10, 11, 12, 13, 14, 15, 16, 17, 18, 19, 20, 21, 22, 23, 24] (fun m1 e w => ∃ (k : Nat), k ≤ l.length ∧ m1 = l.length - k ∧ e 5 = .int .i64 (k : Nat) ∧ (∀ j : Nat, j < k → outB nl (iat l j) = false) ∧ Ext0 w0 w) (l.length) ?_ ?_
 ·exact ⟨0, Nat.zero_le _, rfl, rfl, fun j hj => absurd hj (Nat.not_lt_zero _), hE⟩
 intro m1 e w hI
 obtain ⟨k, hkl, hkm, h5s, hall, hE⟩ := hI
 refine c_know (t := 5) (by exact h5s) ?_
 have hL : Has w [] := trivial
 refine c_seq ?_
 refine c_seq ?_
 refine c_ops ?_
 refine mv' rfl rfl rfl rfl ?_
 refine mv' rfl rfl rfl rfl ?_
 refine l_val rfl rfl rfl (r_len rfl Tryz.underlying26 rfl) ?_
 refine l_val rfl rfl rfl (r_lss rfl rfl rfl) ?_
 refine l_nil ?_
 refine c_cond rfl (fun hb => ?_) (fun hb => ?_)
 ·have hr9 := hb
  replace hb := of_decide_eq_true hb
  have hklt : k < l.length := by omega
  have hk := iat_nat hklt
  refine c_skip ?_
  refine c_seq ?_
  refine c_block ?_
  refine c_seq ?_
  refine c_ops ?_
  refine mv' rfl rfl rfl rfl ?_
  refine mv' rfl rfl rfl rfl ?_
  refine l_val rfl rfl rfl (r_indexAddr_sl rfl Tryz.underlying26 Tryz.sizeOf3 rfl hl.is rfl (by omega) (by omega)) ?_
  refine l_val rfl rfl rfl (r_load (v := .int .i64 (iat l k)) rfl Tryz.isAgg3 rfl ((hl.keep RInt.kept (Ext0.cells hE)).int k (by omega) (by omega))) ?_
  refine l_val rfl rfl rfl (r_lss rfl rfl rfl) ?_
  refine mv' rfl rfl rfl rfl ?_
  refine l_case 17 rfl (fun hb => ?_) (fun hb => ?_)
  ·have hr17 := hb
   replace hb := of_decide_eq_true hb
   have hno : outB nl (iat l k) = true := by simp [outB, hb]
   refine l_not rfl rfl rfl ?_
   refine l_not rfl rfl rfl ?_
   refine l_not rfl rfl rfl ?_
   refine l_not rfl rfl rfl ?_
   refine l_not rfl rfl rfl ?_
   refine l_not rfl rfl rfl ?_
   refine l_val rfl rfl rfl (r_pick rfl rfl) ?_
   refine l_nil ?_
   refine c_yes rfl ?_
   refine c_seq ?_
   refine c_ops ?_
   refine as' rfl rfl rfl rfl ?_
   refine l_nil ?_
   refine c_ret ?_
   exact ⟨ret_bool rfl (by rw [any_get hk hno]; rfl), hE⟩
  ·have hr17 := hb
   replace hb := of_decide_eq_false hb
   refine mv' rfl rfl rfl rfl ?_
   refine mv' rfl rfl rfl rfl ?_
   refine l_val rfl rfl rfl (r_indexAddr_sl rfl Tryz.underlying26 Tryz.sizeOf3 rfl hl.is rfl (by omega) (by omega)) ?_
   refine l_val rfl rfl rfl (r_load (v := .int .i64 (iat l k)) rfl Tryz.isAgg3 rfl ((hl.keep RInt.kept (Ext0.cells hE)).int k (by omega) (by omega))) ?_
   refine mv' rfl rfl rfl rfl ?_
   refine l_val rfl rfl rfl (r_geq rfl rfl rfl) ?_
   refine l_val rfl rfl rfl (r_pick rfl rfl) ?_
   refine l_nil ?_
   refine c_cond rfl (fun hb => ?_) (fun hb => ?_)
   ·have hr24 := hb
    replace hb := of_decide_eq_true hb
    have hno : outB nl (iat l k) = true := by simp [outB, hb]
    refine c_seq ?_
    refine c_ops ?_
    refine as' rfl rfl rfl rfl ?_
    refine l_nil ?_
    refine c_ret ?_
    exact ⟨ret_bool rfl (by rw [any_get hk hno]; rfl), hE⟩
   ·have hr24 := hb
    replace hb := of_decide_eq_false hb
    have hyes : outB nl (iat l k) = false := by have h1 := of_decide_eq_false hr17; simp [outB]; omega
    refine c_skip ?_
    refine c_ops ?_
    refine mv' rfl rfl rfl rfl ?_
    refine l_val rfl rfl rfl (r_add rfl rfl rfl) ?_
    refine as' rfl rfl rfl rfl ?_
    refine l_nil ?_
    refine ag' ?_
    exact ⟨l.length - (k + 1), by omega, k + 1, by omega, rfl, by show Value.int .i64 (IntKind.i64.wrap ((k : Int) + 1)) = _; rw [wrap_succ hklt hl.max], fun j hj => by rcases Nat.lt_or_eq_of_le (Nat.le_of_lt_succ hj) with h | rfl <;> first | exact hall j h | exact hyes, hE⟩
 ·have hr9 := hb
  replace hb := of_decide_eq_false hb
  refine c_exit ?_
  refine c_seq ?_
  refine c_ops ?_
  refine as' rfl rfl rfl rfl ?_
  refine l_nil ?_
  refine c_ret ?_
  exact ⟨ret_bool rfl (by rw [any_none (fun j hj => hall j (by omega))]; rfl), hE⟩
theorem on_rcalls (w0 : World) (Ag : Option Addr) (cg : Nat) (g : List GNode) (hg : Nodes w0 Ag cg g) (f : Fact) (Aw : Option Addr) (cw : Nat) (hw : Ints w0 Aw cw f.why) (ha : 0 ≤ f.a ∧ f.a < g.length) (hne : (gat g f.a).kind ≠ 8 → f.why ≠ []) :
    Calls Tryz.prog 46 [.slice Ag g.length cg, .agg (factCells f Aw cw).toArray].toArray w0 fun en w' => ∃ A c, en = .returned (.slice A (onF g f).length c) ∧ (∀ W, Ints W Aw cw f.why → Ints W A c (onF g f)) ∧ Ext0 w0 w' := by
 have hE : Ext0 w0 w0 := Ext.refl _ _
 have hL : Has w0 [] := trivial
 obtain ⟨Ak, ck, Al, cl, hcell, _, _⟩ := hg.node f.a ha.1 ha.2
 refine calls [4] Tryz.func46 rfl rfl rfl rfl ?_
 refine c_seq ?_
 refine c_ops ?_
 refine l_new rfl rfl rfl (n_box rfl hL hE) ?_
 rintro _ w ⟨b3, rfl, hb3, hL, hE, hX⟩
 refine as' rfl rfl rfl rfl ?_
 refine l_nil ?_
 refine c_seq ?_
 refine c_seq ?_
 refine c_ops ?_
 refine mv' rfl rfl rfl rfl ?_
 refine l_val rfl rfl rfl (r_fieldAddr (n := 0) rfl Tryz.underlying43 rfl Tryz.sizeOf3 rfl) ?_
 refine l_val rfl rfl rfl (r_load_blk rfl Tryz.isAgg3 rfl (hL.get 0 rfl) rfl) ?_
 refine l_val rfl rfl rfl (r_indexAddr_sl rfl Tryz.underlying22 Tryz.sizeOf46 rfl hg.is rfl ha.1 ha.2) ?_
 refine l_val rfl rfl rfl (r_fieldAddr (n := 0) rfl Tryz.underlying46 rfl Tryz.sizeOf3 rfl) ?_
 refine l_val rfl rfl rfl (r_load rfl Tryz.isAgg3 rfl (Ext0.cells hE _ _ (hcell 0 _ rfl))) ?_
 refine l_val rfl rfl rfl (r_eql rfl rfl rfl) ?_
 refine l_nil ?_
 refine c_cond rfl (fun hb => ?_) (fun hb => ?_)
 ·have hr11 := hb
  replace hb := of_decide_eq_true hb
  have hon : onF g f = f.why := by unfold onF; rw [if_pos hb]
  refine c_seq ?_
  refine c_ops ?_
  refine l_val rfl rfl rfl (r_fieldAddr (n := 0) rfl Tryz.underlying43 rfl Tryz.sizeOf26 rfl) ?_
  refine l_val rfl rfl rfl (r_load_blk rfl Tryz.isAgg26 rfl (hL.get 0 rfl) rfl) ?_
  refine as' rfl rfl rfl rfl ?_
  refine l_nil ?_
  refine c_ret ?_
  exact ⟨Aw, cw, by rw [hon]; rfl, fun W h => by rw [hon]; exact h, hE⟩
 ·have hr11 := hb
  replace hb := of_decide_eq_false hb
  have hon : onF g f = f.why.drop 1 := by unfold onF; rw [if_neg hb]
  have hwp := why_pos (hne hb)
  refine c_skip ?_
  refine c_seq ?_
  refine c_ops ?_
  refine l_val rfl rfl rfl (r_fieldAddr (n := 0) rfl Tryz.underlying43 rfl Tryz.sizeOf26 rfl) ?_
  refine l_val rfl rfl rfl (r_load_blk rfl Tryz.isAgg26 rfl (hL.get 0 rfl) rfl) ?_
  refine l_val rfl rfl rfl (r_slice_from rfl Tryz.underlying26 Tryz.sizeOf3 rfl rfl (by decide) (by omega)) ?_
  refine as' rfl rfl rfl rfl ?_
  refine l_nil ?_
  refine c_ret ?_
  rw [hon]; exact ⟨_, _, by rw [List.length_drop]; rfl, fun W h => by have := h.drop1 hwp; rw [← this.len] at this; exact this, hE⟩
theorem one_any (nl : Nat) (l : List Int) : (decide ((l.length : Int) = 1) && !(l.drop 1).any (outB nl)) = decide ((l.length : Int) = 1) := by
 by_cases h : (l.length : Int) = 1
 ·rw [List.drop_eq_nil_of_le (by omega)]
  simp
 ·simp [h]
set_option maxHeartbeats 4000000 in
theorem formed_rcalls (w0 : World) (Ag : Option Addr) (cg : Nat) (g : List GNode) (hg : Nodes w0 Ag cg g) (hok : GraphOk g) (nl : Nat) (f : Fact) (Aw : Option Addr) (cw : Nat) (hw : Ints w0 Aw cw f.why) :
    Calls Tryz.prog 39 [.slice Ag g.length cg, .int .i64 (nl : Nat), .agg (factCells f Aw cw).toArray].toArray w0 fun en w' => en = .returned (.bool (formedF g nl f)) ∧ Ext0 w0 w' := by
 have hE : Ext0 w0 w0 := Ext.refl _ _
 have hL : Has w0 [] := trivial
 have hwm := hw.max
 refine calls [6] Tryz.func39 rfl rfl rfl rfl ?_
 refine c_seq ?_
 refine c_ops ?_
 refine l_new rfl rfl rfl (n_box rfl hL hE) ?_
 rintro _ w ⟨b5, rfl, hb5, hL, hE, hX⟩
 refine as' rfl rfl rfl rfl ?_
 refine l_nil ?_
 refine c_seq ?_
 refine c_seq ?_
 refine c_ops ?_
 refine l_val rfl rfl rfl (r_fieldAddr (n := 0) rfl Tryz.underlying43 rfl Tryz.sizeOf3 rfl) ?_
 refine l_val rfl rfl rfl (r_load_blk rfl Tryz.isAgg3 rfl (hL.get 0 rfl) rfl) ?_
 refine l_val rfl rfl rfl (r_lss rfl rfl rfl) ?_
 refine mv' rfl rfl rfl rfl ?_
 refine l_case 13 rfl (fun hb => ?_) (fun hb => ?_)
 ·have hr13 := hb
  replace hb := of_decide_eq_true hb
  have hno : formedF g nl f = false := by have h : ¬ 0 ≤ f.a := (by omega); simp [formedF, placeB, h]
  refine l_not rfl rfl rfl ?_
  refine l_not rfl rfl rfl ?_
  refine l_not rfl rfl rfl ?_
  refine l_not rfl rfl rfl ?_
  refine l_not rfl rfl rfl ?_
  refine l_val rfl rfl rfl (r_pick rfl rfl) ?_
  refine mv' rfl rfl rfl rfl ?_
  refine l_not rfl rfl rfl ?_
  refine l_not rfl rfl rfl ?_
  refine l_not rfl rfl rfl ?_
  refine l_val rfl rfl rfl (r_pick rfl rfl) ?_
  refine mv' rfl rfl rfl rfl ?_
  refine l_not rfl rfl rfl ?_
  refine l_not rfl rfl rfl ?_
  refine l_not rfl rfl rfl ?_
  refine l_not rfl rfl rfl ?_
  refine l_not rfl rfl rfl ?_
  refine l_val rfl rfl rfl (r_pick rfl rfl) ?_
  refine l_nil ?_
  refine c_yes rfl ?_
  refine c_seq ?_
  refine c_ops ?_
  refine as' rfl rfl rfl rfl ?_
  refine l_nil ?_
  refine c_ret ?_
  exact ⟨ret_bool rfl (by rw [hno]), hE⟩
 ·have hr13 := hb
  replace hb := of_decide_eq_false hb
  refine l_val rfl rfl rfl (r_fieldAddr (n := 0) rfl Tryz.underlying43 rfl Tryz.sizeOf3 rfl) ?_
  refine l_val rfl rfl rfl (r_load_blk rfl Tryz.isAgg3 rfl (hL.get 0 rfl) rfl) ?_
  refine mv' rfl rfl rfl rfl ?_
  refine l_val rfl rfl rfl (r_len rfl Tryz.underlying22 rfl) ?_
  refine l_val rfl rfl rfl (r_geq rfl rfl rfl) ?_
  refine l_val rfl rfl rfl (r_pick rfl rfl) ?_
  refine mv' rfl rfl rfl rfl ?_
  refine l_case 20 rfl (fun hb => ?_) (fun hb => ?_)
  ·have hr20 := hb
   replace hb := of_decide_eq_true hb
   have hno : formedF g nl f = false := by have h : ¬ f.a < g.length := (by omega); simp [formedF, placeB, h]
   refine l_not rfl rfl rfl ?_
   refine l_not rfl rfl rfl ?_
   refine l_not rfl rfl rfl ?_
   refine l_val rfl rfl rfl (r_pick rfl rfl) ?_
   refine mv' rfl rfl rfl rfl ?_
   refine l_not rfl rfl rfl ?_
   refine l_not rfl rfl rfl ?_
   refine l_not rfl rfl rfl ?_
   refine l_not rfl rfl rfl ?_
   refine l_not rfl rfl rfl ?_
   refine l_val rfl rfl rfl (r_pick rfl rfl) ?_
   refine l_nil ?_
   refine c_yes rfl ?_
   refine c_seq ?_
   refine c_ops ?_
   refine as' rfl rfl rfl rfl ?_
   refine l_nil ?_
   refine c_ret ?_
   exact ⟨ret_bool rfl (by rw [hno]), hE⟩
  ·have hr20 := hb
   replace hb := of_decide_eq_false hb
   refine l_val rfl rfl rfl (r_fieldAddr (n := 0) rfl Tryz.underlying43 rfl Tryz.sizeOf3 rfl) ?_
   refine l_val rfl rfl rfl (r_load_blk rfl Tryz.isAgg3 rfl (hL.get 0 rfl) rfl) ?_
   refine l_val rfl rfl rfl (r_lss rfl rfl rfl) ?_
   refine l_val rfl rfl rfl (r_pick rfl rfl) ?_
   refine mv' rfl rfl rfl rfl ?_
   refine l_case 25 rfl (fun hb => ?_) (fun hb => ?_)
   ·have hr25 := hb
    replace hb := of_decide_eq_true hb
    have hno : formedF g nl f = false := by have h : ¬ 0 ≤ f.b := (by omega); simp [formedF, placeB, h]
    refine l_not rfl rfl rfl ?_
    refine l_not rfl rfl rfl ?_
    refine l_not rfl rfl rfl ?_
    refine l_not rfl rfl rfl ?_
    refine l_not rfl rfl rfl ?_
    refine l_val rfl rfl rfl (r_pick rfl rfl) ?_
    refine l_nil ?_
    refine c_yes rfl ?_
    refine c_seq ?_
    refine c_ops ?_
    refine as' rfl rfl rfl rfl ?_
    refine l_nil ?_
    refine c_ret ?_
    exact ⟨ret_bool rfl (by rw [hno]), hE⟩
   ·have hr25 := hb
    replace hb := of_decide_eq_false hb
    refine l_val rfl rfl rfl (r_fieldAddr (n := 0) rfl Tryz.underlying43 rfl Tryz.sizeOf3 rfl) ?_
    refine l_val rfl rfl rfl (r_load_blk rfl Tryz.isAgg3 rfl (hL.get 0 rfl) rfl) ?_
    refine mv' rfl rfl rfl rfl ?_
    refine l_val rfl rfl rfl (r_len rfl Tryz.underlying22 rfl) ?_
    refine l_val rfl rfl rfl (r_geq rfl rfl rfl) ?_
    refine l_val rfl rfl rfl (r_pick rfl rfl) ?_
    refine l_nil ?_
    refine c_cond rfl (fun hb => ?_) (fun hb => ?_)
    ·have hr31 := hb
     replace hb := of_decide_eq_true hb
     have hno : formedF g nl f = false := by have h : ¬ f.b < g.length := (by omega); simp [formedF, placeB, h]
     refine c_seq ?_
     refine c_ops ?_
     refine as' rfl rfl rfl rfl ?_
     refine l_nil ?_
     refine c_ret ?_
     exact ⟨ret_bool rfl (by rw [hno]), hE⟩
    ·have hr31 := hb
     replace hb := of_decide_eq_false hb
     have ha : 0 ≤ f.a ∧ f.a < g.length := ⟨by have := of_decide_eq_false hr13; omega, by have := of_decide_eq_false hr20; omega⟩
     have hbb : 0 ≤ f.b ∧ f.b < g.length := ⟨by have := of_decide_eq_false hr25; omega, by omega⟩
     have hpa : placeB g.length f.a = true := by simp [placeB, ha.1, ha.2]
     have hpb : placeB g.length f.b = true := by simp [placeB, hbb.1, hbb.2]
     obtain ⟨Ak, ck, Al, cl, hcell, hks, hls⟩ := hg.node f.a ha.1 ha.2
     refine c_skip ?_
     refine c_seq ?_
     refine c_ops ?_
     refine mv' rfl rfl rfl rfl ?_
     refine l_val rfl rfl rfl (r_fieldAddr (n := 0) rfl Tryz.underlying43 rfl Tryz.sizeOf3 rfl) ?_
     refine l_val rfl rfl rfl (r_load_blk rfl Tryz.isAgg3 rfl (hL.get 0 rfl) rfl) ?_
     refine l_val rfl rfl rfl (r_indexAddr_sl rfl Tryz.underlying22 Tryz.sizeOf46 rfl hg.is rfl ha.1 ha.2) ?_
     refine l_val rfl rfl rfl (r_load_agg (vs := nodeCells (gat g f.a) Ak ck Al cl) rfl Tryz.isAgg46 Tryz.sizeOf46 rfl (fun j v hj => Ext0.cells hE _ _ (hcell j v hj))) ?_
     refine l_new rfl rfl rfl (n_alloc rfl Tryz.zeroValue46 hL hE) ?_
     rintro _ w ⟨b7, rfl, hb7, hL, hE, hX⟩
     refine l_new_do rfl rfl (r_store 0 rfl Tryz.sizeOf46 rfl hL hE rfl rfl rfl rfl (fun h => absurd h (Nat.not_lt.2 hb7))) ?_
     rintro w ⟨hL, hE, hz, hk⟩; replace hL : Has w [.blk b7 (.cells (nodeCells (gat g f.a) Ak ck Al cl).toArray 46 (0, 0)), .blk b5 (.cells (factCells f Aw cw).toArray 43 (0, 0))] := hL
     refine l_nil ?_
     refine c_seq ?_
     refine c_seq ?_
     refine c_ops ?_
     refine l_val rfl rfl rfl (r_fieldAddr (n := 0) rfl Tryz.underlying46 rfl Tryz.sizeOf3 rfl) ?_
     refine l_val rfl rfl rfl (r_load_blk rfl Tryz.isAgg3 rfl (hL.get 0 rfl) rfl) ?_
     refine l_val rfl rfl rfl (r_eql rfl rfl rfl) ?_
     refine l_nil ?_
     refine c_cond rfl (fun hb => ?_) (fun hb => ?_)
     ·have hr39 := hb
      replace hb := of_decide_eq_true hb
      have hm : manyF g f = some ((gat g f.a).l.length : Int) := by unfold manyF; rw [if_pos hb]
      have hon : onF g f = f.why := by unfold onF; rw [if_pos hb]
      refine c_seq ?_
      refine c_ops ?_
      refine l_val rfl rfl rfl (r_fieldAddr (n := 0) rfl Tryz.underlying43 rfl Tryz.sizeOf26 rfl) ?_
      refine l_val rfl rfl rfl (r_load_blk rfl Tryz.isAgg26 rfl (hL.get 1 rfl) rfl) ?_
      refine l_val rfl rfl rfl (r_len rfl Tryz.underlying26 rfl) ?_
      refine l_val rfl rfl rfl (r_fieldAddr (n := 0) rfl Tryz.underlying46 rfl Tryz.sizeOf26 rfl) ?_
      refine l_val rfl rfl rfl (r_load_blk rfl Tryz.isAgg26 rfl (hL.get 0 rfl) rfl) ?_
      refine l_val rfl rfl rfl (r_len rfl Tryz.underlying26 rfl) ?_
      refine l_val rfl rfl rfl (r_eql rfl rfl rfl) ?_
      refine mv' rfl rfl rfl rfl ?_
      refine l_case 47 rfl (fun hb => ?_) (fun hb => ?_)
      ·have hr47 := hb
       replace hb := of_decide_eq_true hb
       refine mv' rfl rfl rfl rfl ?_
       refine l_val rfl rfl rfl (r_fieldAddr (n := 0) rfl Tryz.underlying43 rfl Tryz.sizeOf26 rfl) ?_
       refine l_val rfl rfl rfl (r_load_blk rfl Tryz.isAgg26 rfl (hL.get 1 rfl) rfl) ?_
       refine l_by rfl rfl rfl (r_call rfl rfl Tryz.func62 rfl rfl) (numbers_rcalls _ nl _ _ _ _ (hw.keep RInt.kept (Ext0.cells hE))) ?_
       rintro _ w ⟨rfl, hX⟩
       replace hL := hL.ext0 hX
       replace hE := hE.step0 hX
       refine ⟨_, rfl, ?_⟩
       refine l_val rfl rfl rfl (r_pick rfl rfl) ?_
       refine as' rfl rfl rfl rfl ?_
       refine l_nil ?_
       refine c_ret ?_
       exact ⟨ret_bool rfl (by rw [formed_some hpa hpb hm, hon]; simp only [hr47, Bool.true_and, Bool.and_true, Bool.false_and, Bool.and_false, Bool.true_or, Bool.or_true, Bool.false_or, Bool.or_false, Bool.not_true, Bool.not_false, cond_true, cond_false]), hE⟩
      ·have hr47 := hb
       replace hb := of_decide_eq_false hb
       refine l_not rfl rfl rfl ?_
       refine l_not rfl rfl rfl ?_
       refine l_not rfl rfl rfl ?_
       refine l_not rfl rfl rfl ?_
       refine l_val rfl rfl rfl (r_pick rfl rfl) ?_
       refine as' rfl rfl rfl rfl ?_
       refine l_nil ?_
       refine c_ret ?_
       exact ⟨ret_bool rfl (by rw [formed_some hpa hpb hm, hon]; simp only [hr47, Bool.true_and, Bool.and_true, Bool.false_and, Bool.and_false, Bool.true_or, Bool.or_true, Bool.false_or, Bool.or_false, Bool.not_true, Bool.not_false, cond_true, cond_false]), hE⟩
     ·have hr39 := hb
      replace hb := of_decide_eq_false hb
      have h8 : ¬ (gat g f.a).kind = 8 := hb
      have hon : onF g f = f.why.drop 1 := by unfold onF; rw [if_neg hb]
      refine c_skip ?_
      refine c_seq ?_
      refine c_seq ?_
      refine c_ops ?_
      refine l_val rfl rfl rfl (r_fieldAddr (n := 0) rfl Tryz.underlying43 rfl Tryz.sizeOf26 rfl) ?_
      refine l_val rfl rfl rfl (r_load_blk rfl Tryz.isAgg26 rfl (hL.get 1 rfl) rfl) ?_
      refine l_val rfl rfl rfl (r_len rfl Tryz.underlying26 rfl) ?_
      refine l_val rfl rfl rfl (r_eql rfl rfl rfl) ?_
      refine l_nil ?_
      refine c_cond rfl (fun hb => ?_) (fun hb => ?_)
      ·have hr56 := hb
       replace hb := of_decide_eq_true hb
       have hm : manyF g f = none := by unfold manyF; rw [if_neg h8, if_pos (by omega)]
       refine c_seq ?_
       refine c_ops ?_
       refine as' rfl rfl rfl rfl ?_
       refine l_nil ?_
       refine c_ret ?_
       exact ⟨ret_bool rfl (by rw [formed_none hm]), hE⟩
      ·have hr56 := hb
       replace hb := of_decide_eq_false hb
       have hw0 : ¬ f.why.length = 0 := by omega
       have hwp : 0 < f.why.length := by omega
       refine c_skip ?_
       refine c_seq ?_
       refine c_merge [57, 58, 59, 60, 61, 62, 63, 64, 65, 66] (fun e w => e 66 = .bool (decide ((gat g f.a).kind = 9) && decide (iat f.why 0 = -1)) ∧ Has w [.blk b7 (.cells (nodeCells (gat g f.a) Ak ck Al cl).toArray 46 (0, 0)), .blk b5 (.cells (factCells f Aw cw).toArray 43 (0, 0))] ∧ Ext0 w0 w) ?_ ?_
       ·skip
        refine c_ops ?_
        refine l_val rfl rfl rfl (r_fieldAddr (n := 0) rfl Tryz.underlying46 rfl Tryz.sizeOf3 rfl) ?_
        refine l_val rfl rfl rfl (r_load_blk rfl Tryz.isAgg3 rfl (hL.get 0 rfl) rfl) ?_
        refine l_val rfl rfl rfl (r_eql rfl rfl rfl) ?_
        refine mv' rfl rfl rfl rfl ?_
        refine l_case 60 rfl (fun hb => ?_) (fun hb => ?_)
        ·have hr60 := hb
         replace hb := of_decide_eq_true hb
         refine l_val rfl rfl rfl (r_fieldAddr (n := 0) rfl Tryz.underlying43 rfl Tryz.sizeOf26 rfl) ?_
         refine l_val rfl rfl rfl (r_load_blk rfl Tryz.isAgg26 rfl (hL.get 1 rfl) rfl) ?_
         refine l_val rfl rfl rfl (r_indexAddr_sl rfl Tryz.underlying26 Tryz.sizeOf3 rfl hw.is rfl (by decide) (by omega)) ?_
         refine l_val rfl rfl rfl (r_load (v := .int .i64 (iat f.why 0)) rfl Tryz.isAgg3 rfl ((hw.keep RInt.kept (Ext0.cells hE)).int 0 (by decide) (by omega))) ?_
         refine l_val rfl rfl rfl (r_eql rfl rfl rfl) ?_
         refine l_val rfl rfl rfl (r_pick rfl rfl) ?_
         refine l_nil ?_
         refine ag' ?_
         exact ⟨congrArg Value.bool (by simp only [hr60, Bool.true_and, Bool.and_true, Bool.false_and, Bool.and_false, Bool.true_or, Bool.or_true, Bool.false_or, Bool.or_false, Bool.not_true, Bool.not_false, cond_true, cond_false]), hL, hE⟩
        ·have hr60 := hb
         replace hb := of_decide_eq_false hb
         refine l_not rfl rfl rfl ?_
         refine l_not rfl rfl rfl ?_
         refine l_not rfl rfl rfl ?_
         refine l_not rfl rfl rfl ?_
         refine l_not rfl rfl rfl ?_
         refine l_val rfl rfl rfl (r_pick rfl rfl) ?_
         refine l_nil ?_
         refine ag' ?_
         exact ⟨congrArg Value.bool (by simp only [hr60, Bool.true_and, Bool.and_true, Bool.false_and, Bool.and_false, Bool.true_or, Bool.or_true, Bool.false_or, Bool.or_false, Bool.not_true, Bool.not_false, cond_true, cond_false]), hL, hE⟩
       rintro e w hI
       obtain ⟨h66, hL, hE⟩ := hI
       refine c_know (t := 66) (by exact h66) ?_
       refine c_cond rfl (fun hb => ?_) (fun hb => ?_)
       ·have hr66 := hb
        have hm : manyF g f = some 2 := by unfold manyF; rw [if_neg h8, if_neg hw0, if_pos (by simpa using hb)]
        refine c_seq ?_
        refine c_ops ?_
        refine l_val rfl rfl rfl (r_fieldAddr (n := 0) rfl Tryz.underlying43 rfl Tryz.sizeOf26 rfl) ?_
        refine l_val rfl rfl rfl (r_load_blk rfl Tryz.isAgg26 rfl (hL.get 1 rfl) rfl) ?_
        refine l_val rfl rfl rfl (r_len rfl Tryz.underlying26 rfl) ?_
        refine l_val rfl rfl rfl (r_eql rfl rfl rfl) ?_
        refine mv' rfl rfl rfl rfl ?_
        refine l_case 71 rfl (fun hb => ?_) (fun hb => ?_)
        ·have hr71 := hb
         replace hb := of_decide_eq_true hb
         refine mv' rfl rfl rfl rfl ?_
         refine l_val rfl rfl rfl (r_fieldAddr (n := 0) rfl Tryz.underlying43 rfl Tryz.sizeOf26 rfl) ?_
         refine l_val rfl rfl rfl (r_load_blk rfl Tryz.isAgg26 rfl (hL.get 1 rfl) rfl) ?_
         refine l_val rfl rfl rfl (r_slice_from rfl Tryz.underlying26 Tryz.sizeOf3 rfl rfl (by decide) (by omega)) ?_
         refine l_by rfl rfl rfl (r_call rfl rfl Tryz.func62 rfl rfl) (numbers_rcalls _ nl _ _ _ _ ((hw.keep RInt.kept (Ext0.cells hE)).drop1 hwp)) ?_
         rintro _ w ⟨rfl, hX⟩
         replace hL := hL.ext0 hX
         replace hE := hE.step0 hX
         refine ⟨_, rfl, ?_⟩
         refine l_val rfl rfl rfl (r_pick rfl rfl) ?_
         refine as' rfl rfl rfl rfl ?_
         refine l_nil ?_
         refine c_ret ?_
         exact ⟨ret_bool rfl (by rw [formed_some hpa hpb hm, hon]; simp only [hr71, Bool.true_and, Bool.and_true, Bool.false_and, Bool.and_false, Bool.true_or, Bool.or_true, Bool.false_or, Bool.or_false, Bool.not_true, Bool.not_false, cond_true, cond_false]), hE⟩
        ·have hr71 := hb
         replace hb := of_decide_eq_false hb
         refine l_not rfl rfl rfl ?_
         refine l_not rfl rfl rfl ?_
         refine l_not rfl rfl rfl ?_
         refine l_not rfl rfl rfl ?_
         refine l_not rfl rfl rfl ?_
         refine l_val rfl rfl rfl (r_pick rfl rfl) ?_
         refine as' rfl rfl rfl rfl ?_
         refine l_nil ?_
         refine c_ret ?_
         exact ⟨ret_bool rfl (by rw [formed_some hpa hpb hm, hon]; simp only [hr71, Bool.true_and, Bool.and_true, Bool.false_and, Bool.and_false, Bool.true_or, Bool.or_true, Bool.false_or, Bool.or_false, Bool.not_true, Bool.not_false, cond_true, cond_false]), hE⟩
       ·have hr66 := hb
        have h9 : ¬ ((gat g f.a).kind = 9 ∧ iat f.why 0 = -1) := by simpa using hb
        refine c_skip ?_
        refine c_seq ?_
        refine c_ops ?_
        refine mv' rfl rfl rfl rfl ?_
        refine l_val rfl rfl rfl (r_fieldAddr (n := 0) rfl Tryz.underlying43 rfl Tryz.sizeOf3 rfl) ?_
        refine l_val rfl rfl rfl (r_load_blk rfl Tryz.isAgg3 rfl (hL.get 1 rfl) rfl) ?_
        refine l_by rfl rfl rfl (r_call rfl rfl Tryz.func63 rfl rfl) (rMembers_calls _ Ag cg g (hg.keep RNode.kept (Ext0.cells hE)) hok.fits f.b) ?_
        rintro _ w ⟨v, rfl, hrow, hX⟩
        replace hL := hL.addRow hX hrow
        replace hE := hE.step0 hX
        obtain ⟨A2, c2, rfl, hmem, _⟩ := Sl.ofInts hrow
        obtain ⟨bm, hL⟩ : ∃ bm, Has w (.row bm _ _ _ _ _ :: _) := ⟨_, hL⟩
        replace hL : Has w [.row bm 3 1 (.slice A2 (membersG g f.b).length c2) (membersG g f.b).length ((membersG g f.b).map (Value.int .i64)), .blk b7 (.cells (nodeCells (gat g f.a) Ak ck Al cl).toArray 46 (0, 0)), .blk b5 (.cells (factCells f Aw cw).toArray 43 (0, 0))] := hL
        refine ⟨_, rfl, ?_⟩
        refine as' rfl rfl rfl rfl ?_
        refine l_nil ?_
        refine c_seq ?_
        refine c_seq ?_
        refine c_ops ?_
        refine l_val rfl rfl rfl (r_fieldAddr (n := 0) rfl Tryz.underlying43 rfl Tryz.sizeOf26 rfl) ?_
        refine l_val rfl rfl rfl (r_load_blk rfl Tryz.isAgg26 rfl (hL.get 2 rfl) rfl) ?_
        refine l_val rfl rfl rfl (r_indexAddr_sl rfl Tryz.underlying26 Tryz.sizeOf3 rfl hw.is rfl (by decide) (by omega)) ?_
        refine l_val rfl rfl rfl (r_load (v := .int .i64 (iat f.why 0)) rfl Tryz.isAgg3 rfl ((hw.keep RInt.kept (Ext0.cells hE)).int 0 (by decide) (by omega))) ?_
        refine l_val rfl rfl rfl (r_lss rfl rfl rfl) ?_
        refine mv' rfl rfl rfl rfl ?_
        refine l_case 87 rfl (fun hb => ?_) (fun hb => ?_)
        ·have hr87 := hb
         replace hb := of_decide_eq_true hb
         have hm : manyF g f = none := by unfold manyF; rw [if_neg h8, if_neg hw0, if_neg h9, if_pos (.inl hb)]
         refine l_not rfl rfl rfl ?_
         refine l_not rfl rfl rfl ?_
         refine l_not rfl rfl rfl ?_
         refine l_not rfl rfl rfl ?_
         refine l_not rfl rfl rfl ?_
         refine l_not rfl rfl rfl ?_
         refine l_not rfl rfl rfl ?_
         refine l_val rfl rfl rfl (r_pick rfl rfl) ?_
         refine l_nil ?_
         refine c_yes rfl ?_
         refine c_seq ?_
         refine c_ops ?_
         refine as' rfl rfl rfl rfl ?_
         refine l_nil ?_
         refine c_ret ?_
         exact ⟨ret_bool rfl (by rw [formed_none hm]), hE⟩
        ·have hr87 := hb
         replace hb := of_decide_eq_false hb
         refine l_val rfl rfl rfl (r_fieldAddr (n := 0) rfl Tryz.underlying43 rfl Tryz.sizeOf26 rfl) ?_
         refine l_val rfl rfl rfl (r_load_blk rfl Tryz.isAgg26 rfl (hL.get 2 rfl) rfl) ?_
         refine l_val rfl rfl rfl (r_indexAddr_sl rfl Tryz.underlying26 Tryz.sizeOf3 rfl hw.is rfl (by decide) (by omega)) ?_
         refine l_val rfl rfl rfl (r_load (v := .int .i64 (iat f.why 0)) rfl Tryz.isAgg3 rfl ((hw.keep RInt.kept (Ext0.cells hE)).int 0 (by decide) (by omega))) ?_
         refine mv' rfl rfl rfl rfl ?_
         refine l_val rfl rfl rfl (r_len rfl Tryz.underlying26 rfl) ?_
         refine l_val rfl rfl rfl (r_geq rfl rfl rfl) ?_
         refine l_val rfl rfl rfl (r_pick rfl rfl) ?_
         refine l_nil ?_
         refine c_cond rfl (fun hb => ?_) (fun hb => ?_)
         ·have hr95 := hb
          replace hb := of_decide_eq_true hb
          have hm : manyF g f = none := by unfold manyF; rw [if_neg h8, if_neg hw0, if_neg h9, if_pos (.inr hb)]
          refine c_seq ?_
          refine c_ops ?_
          refine as' rfl rfl rfl rfl ?_
          refine l_nil ?_
          refine c_ret ?_
          exact ⟨ret_bool rfl (by rw [formed_none hm]), hE⟩
         ·have hr95 := hb
          replace hb := of_decide_eq_false hb
          have hni : ¬ (iat f.why 0 < 0 ∨ (membersG g f.b).length ≤ iat f.why 0) := by have := of_decide_eq_false hr87; omega
          have hwi : 0 ≤ iat f.why 0 ∧ iat f.why 0 < (membersG g f.b).length := by omega
          have hch := chosen_in hok hwi
          obtain ⟨Bk, dk, Bl, dl, hcell2, htk, htl⟩ := hg.node _ hch.1 hch.2.1
          refine c_skip ?_
          refine c_seq ?_
          refine c_ops ?_
          refine mv' rfl rfl rfl rfl ?_
          refine mv' rfl rfl rfl rfl ?_
          refine l_val rfl rfl rfl (r_fieldAddr (n := 0) rfl Tryz.underlying43 rfl Tryz.sizeOf26 rfl) ?_
          refine l_val rfl rfl rfl (r_load_blk rfl Tryz.isAgg26 rfl (hL.get 2 rfl) rfl) ?_
          refine l_val rfl rfl rfl (r_indexAddr_sl rfl Tryz.underlying26 Tryz.sizeOf3 rfl hw.is rfl (by decide) (by omega)) ?_
          refine l_val rfl rfl rfl (r_load (v := .int .i64 (iat f.why 0)) rfl Tryz.isAgg3 rfl ((hw.keep RInt.kept (Ext0.cells hE)).int 0 (by decide) (by omega))) ?_
          refine l_val rfl rfl rfl (r_indexAddr_sl rfl Tryz.underlying26 Tryz.sizeOf3 rfl hmem.is rfl hwi.1 hwi.2) ?_
          refine l_val rfl rfl rfl (r_load (v := .int .i64 (iat (membersG g f.b) (iat f.why 0))) rfl Tryz.isAgg3 rfl ((Sl.ints_at (hL.row 0 rfl)).int _ hwi.1 hwi.2)) ?_
          refine l_val rfl rfl rfl (r_indexAddr_sl rfl Tryz.underlying22 Tryz.sizeOf46 rfl hg.is rfl hch.1 hch.2.1) ?_
          refine l_val rfl rfl rfl (r_load_agg (vs := nodeCells (chosenF g f) Bk dk Bl dl) rfl Tryz.isAgg46 Tryz.sizeOf46 rfl (fun j v hj => Ext0.cells hE _ _ (hcell2 j v hj))) ?_
          refine l_new rfl rfl rfl (n_alloc rfl Tryz.zeroValue46 hL hE) ?_
          rintro _ w ⟨b9, rfl, hb9, hL, hE, hX⟩
          refine l_new_do rfl rfl (r_store 0 rfl Tryz.sizeOf46 rfl hL hE rfl rfl rfl rfl (fun h => absurd h (Nat.not_lt.2 hb9))) ?_
          rintro w ⟨hL, hE, hz, hk⟩; replace hL : Has w [.blk b9 (.cells (nodeCells (chosenF g f) Bk dk Bl dl).toArray 46 (0, 0)), .row bm 3 1 (.slice A2 (membersG g f.b).length c2) (membersG g f.b).length ((membersG g f.b).map (Value.int .i64)), .blk b7 (.cells (nodeCells (gat g f.a) Ak ck Al cl).toArray 46 (0, 0)), .blk b5 (.cells (factCells f Aw cw).toArray 43 (0, 0))] := hL
          refine l_nil ?_
          refine c_seq ?_
          refine c_merge [106, 107, 108, 109, 110, 111, 112, 113] (fun e w => e 113 = .bool (decide ((gat g f.a).kind = 7) && decide ((chosenF g f).kind = 7)) ∧ Has w [.blk b9 (.cells (nodeCells (chosenF g f) Bk dk Bl dl).toArray 46 (0, 0)), .row bm 3 1 (.slice A2 (membersG g f.b).length c2) (membersG g f.b).length ((membersG g f.b).map (Value.int .i64)), .blk b7 (.cells (nodeCells (gat g f.a) Ak ck Al cl).toArray 46 (0, 0)), .blk b5 (.cells (factCells f Aw cw).toArray 43 (0, 0))] ∧ Ext0 w0 w) ?_ ?_
          ·skip
           refine c_ops ?_
           refine l_val rfl rfl rfl (r_fieldAddr (n := 0) rfl Tryz.underlying46 rfl Tryz.sizeOf3 rfl) ?_
           refine l_val rfl rfl rfl (r_load_blk rfl Tryz.isAgg3 rfl (hL.get 2 rfl) rfl) ?_
           refine l_val rfl rfl rfl (r_eql rfl rfl rfl) ?_
           refine mv' rfl rfl rfl rfl ?_
           refine l_case 109 rfl (fun hb => ?_) (fun hb => ?_)
           ·have hr109 := hb
            replace hb := of_decide_eq_true hb
            refine l_val rfl rfl rfl (r_fieldAddr (n := 0) rfl Tryz.underlying46 rfl Tryz.sizeOf3 rfl) ?_
            refine l_val rfl rfl rfl (r_load_blk rfl Tryz.isAgg3 rfl (hL.get 0 rfl) rfl) ?_
            refine l_val rfl rfl rfl (r_eql rfl rfl rfl) ?_
            refine l_val rfl rfl rfl (r_pick rfl rfl) ?_
            refine l_nil ?_
            refine ag' ?_
            exact ⟨congrArg Value.bool (by simp only [hr109, Bool.true_and, Bool.and_true, Bool.false_and, Bool.and_false, Bool.true_or, Bool.or_true, Bool.false_or, Bool.or_false, Bool.not_true, Bool.not_false, cond_true, cond_false]), hL, hE⟩
           ·have hr109 := hb
            replace hb := of_decide_eq_false hb
            refine l_not rfl rfl rfl ?_
            refine l_not rfl rfl rfl ?_
            refine l_not rfl rfl rfl ?_
            refine l_val rfl rfl rfl (r_pick rfl rfl) ?_
            refine l_nil ?_
            refine ag' ?_
            exact ⟨congrArg Value.bool (by simp only [hr109, Bool.true_and, Bool.and_true, Bool.false_and, Bool.and_false, Bool.true_or, Bool.or_true, Bool.false_or, Bool.or_false, Bool.not_true, Bool.not_false, cond_true, cond_false]), hL, hE⟩
          rintro e w hI
          obtain ⟨h113, hL, hE⟩ := hI
          refine c_know (t := 113) (by exact h113) ?_
          refine c_cond rfl (fun hb => ?_) (fun hb => ?_)
          ·have hr113 := hb
           have hm : manyF g f = some (1 + ((chosenF g f).keys.length : Int)) := by unfold manyF; rw [if_neg h8, if_neg hw0, if_neg h9, if_neg hni, if_pos (by simpa using hb)]
           have hkm : (chosenF g f).keys.length ≤ 1000000000000 := by
            have h1 := hok.fits.lists _ (gat_mem' hch.1 hch.2.1)
            have h2 := fun h => ((hok.is (gat_mem' hch.1 hch.2.1)).keys (k := 0) h).1
            show (gat g (iat (membersG g f.b) (iat f.why 0))).keys.length ≤ _
            omega
           have hwr : IntKind.i64.wrap (1 + ((chosenF g f).keys.length : Int)) = 1 + ((chosenF g f).keys.length : Int) := wrap_small (by omega) (by omega)
           refine c_seq ?_
           refine c_ops ?_
           refine l_val rfl rfl rfl (r_fieldAddr (n := 0) rfl Tryz.underlying43 rfl Tryz.sizeOf26 rfl) ?_
           refine l_val rfl rfl rfl (r_load_blk rfl Tryz.isAgg26 rfl (hL.get 3 rfl) rfl) ?_
           refine l_val rfl rfl rfl (r_len rfl Tryz.underlying26 rfl) ?_
           refine l_val rfl rfl rfl (r_fieldAddr (n := 0) rfl Tryz.underlying46 rfl Tryz.sizeOf44 rfl) ?_
           refine l_val rfl rfl rfl (r_load_blk rfl Tryz.isAgg44 rfl (hL.get 0 rfl) rfl) ?_
           refine l_val rfl rfl rfl (r_len rfl Tryz.underlying44 rfl) ?_
           refine l_val rfl rfl rfl ((r_add rfl rfl rfl).trans (by rw [hwr])) ?_
           refine l_val rfl rfl rfl (r_eql rfl rfl rfl) ?_
           refine mv' rfl rfl rfl rfl ?_
           refine l_case 122 rfl (fun hb => ?_) (fun hb => ?_)
           ·have hr122 := hb
            replace hb := of_decide_eq_true hb
            refine mv' rfl rfl rfl rfl ?_
            refine l_val rfl rfl rfl (r_fieldAddr (n := 0) rfl Tryz.underlying43 rfl Tryz.sizeOf26 rfl) ?_
            refine l_val rfl rfl rfl (r_load_blk rfl Tryz.isAgg26 rfl (hL.get 3 rfl) rfl) ?_
            refine l_val rfl rfl rfl (r_slice_from rfl Tryz.underlying26 Tryz.sizeOf3 rfl rfl (by decide) (by omega)) ?_
            refine l_by rfl rfl rfl (r_call rfl rfl Tryz.func62 rfl rfl) (numbers_rcalls _ nl _ _ _ _ ((hw.keep RInt.kept (Ext0.cells hE)).drop1 hwp)) ?_
            rintro _ w ⟨rfl, hX⟩
            replace hL := hL.ext0 hX
            replace hE := hE.step0 hX
            refine ⟨_, rfl, ?_⟩
            refine l_val rfl rfl rfl (r_pick rfl rfl) ?_
            refine as' rfl rfl rfl rfl ?_
            refine l_nil ?_
            refine c_ret ?_
            exact ⟨ret_bool rfl (by rw [formed_some hpa hpb hm, hon]; simp only [hr122, Bool.true_and, Bool.and_true, Bool.false_and, Bool.and_false, Bool.true_or, Bool.or_true, Bool.false_or, Bool.or_false, Bool.not_true, Bool.not_false, cond_true, cond_false]), hE⟩
           ·have hr122 := hb
            replace hb := of_decide_eq_false hb
            refine l_not rfl rfl rfl ?_
            refine l_not rfl rfl rfl ?_
            refine l_not rfl rfl rfl ?_
            refine l_not rfl rfl rfl ?_
            refine l_not rfl rfl rfl ?_
            refine l_val rfl rfl rfl (r_pick rfl rfl) ?_
            refine as' rfl rfl rfl rfl ?_
            refine l_nil ?_
            refine c_ret ?_
            exact ⟨ret_bool rfl (by rw [formed_some hpa hpb hm, hon]; simp only [hr122, Bool.true_and, Bool.and_true, Bool.false_and, Bool.and_false, Bool.true_or, Bool.or_true, Bool.false_or, Bool.or_false, Bool.not_true, Bool.not_false, cond_true, cond_false]), hE⟩
          ·have hr113 := hb
           have h7 : ¬ ((gat g f.a).kind = 7 ∧ (chosenF g f).kind = 7) := by simpa using hb
           refine c_skip ?_
           refine c_seq ?_
           refine c_merge [129, 130, 131, 132, 133, 134, 135, 136] (fun e w => e 136 = .bool (decide ((gat g f.a).kind = 9) && decide ((chosenF g f).kind = 9)) ∧ Has w [.blk b9 (.cells (nodeCells (chosenF g f) Bk dk Bl dl).toArray 46 (0, 0)), .row bm 3 1 (.slice A2 (membersG g f.b).length c2) (membersG g f.b).length ((membersG g f.b).map (Value.int .i64)), .blk b7 (.cells (nodeCells (gat g f.a) Ak ck Al cl).toArray 46 (0, 0)), .blk b5 (.cells (factCells f Aw cw).toArray 43 (0, 0))] ∧ Ext0 w0 w) ?_ ?_
           ·skip
            refine c_ops ?_
            refine l_val rfl rfl rfl (r_fieldAddr (n := 0) rfl Tryz.underlying46 rfl Tryz.sizeOf3 rfl) ?_
            refine l_val rfl rfl rfl (r_load_blk rfl Tryz.isAgg3 rfl (hL.get 2 rfl) rfl) ?_
            refine l_val rfl rfl rfl (r_eql rfl rfl rfl) ?_
            refine mv' rfl rfl rfl rfl ?_
            refine l_case 132 rfl (fun hb => ?_) (fun hb => ?_)
            ·have hr132 := hb
             replace hb := of_decide_eq_true hb
             refine l_val rfl rfl rfl (r_fieldAddr (n := 0) rfl Tryz.underlying46 rfl Tryz.sizeOf3 rfl) ?_
             refine l_val rfl rfl rfl (r_load_blk rfl Tryz.isAgg3 rfl (hL.get 0 rfl) rfl) ?_
             refine l_val rfl rfl rfl (r_eql rfl rfl rfl) ?_
             refine l_val rfl rfl rfl (r_pick rfl rfl) ?_
             refine l_nil ?_
             refine ag' ?_
             exact ⟨congrArg Value.bool (by simp only [hr132, Bool.true_and, Bool.and_true, Bool.false_and, Bool.and_false, Bool.true_or, Bool.or_true, Bool.false_or, Bool.or_false, Bool.not_true, Bool.not_false, cond_true, cond_false]), hL, hE⟩
            ·have hr132 := hb
             replace hb := of_decide_eq_false hb
             refine l_not rfl rfl rfl ?_
             refine l_not rfl rfl rfl ?_
             refine l_not rfl rfl rfl ?_
             refine l_val rfl rfl rfl (r_pick rfl rfl) ?_
             refine l_nil ?_
             refine ag' ?_
             exact ⟨congrArg Value.bool (by simp only [hr132, Bool.true_and, Bool.and_true, Bool.false_and, Bool.and_false, Bool.true_or, Bool.or_true, Bool.false_or, Bool.or_false, Bool.not_true, Bool.not_false, cond_true, cond_false]), hL, hE⟩
           rintro e w hI
           obtain ⟨h136, hL, hE⟩ := hI
           refine c_know (t := 136) (by exact h136) ?_
           refine c_cond rfl (fun hb => ?_) (fun hb => ?_)
           ·have hr136 := hb
            have hm : manyF g f = some 2 := by unfold manyF; rw [if_neg h8, if_neg hw0, if_neg h9, if_neg hni, if_neg h7, if_pos (by simpa using hb)]
            refine c_seq ?_
            refine c_ops ?_
            refine l_val rfl rfl rfl (r_fieldAddr (n := 0) rfl Tryz.underlying43 rfl Tryz.sizeOf26 rfl) ?_
            refine l_val rfl rfl rfl (r_load_blk rfl Tryz.isAgg26 rfl (hL.get 3 rfl) rfl) ?_
            refine l_val rfl rfl rfl (r_len rfl Tryz.underlying26 rfl) ?_
            refine l_val rfl rfl rfl (r_eql rfl rfl rfl) ?_
            refine mv' rfl rfl rfl rfl ?_
            refine l_case 141 rfl (fun hb => ?_) (fun hb => ?_)
            ·have hr141 := hb
             replace hb := of_decide_eq_true hb
             refine mv' rfl rfl rfl rfl ?_
             refine l_val rfl rfl rfl (r_fieldAddr (n := 0) rfl Tryz.underlying43 rfl Tryz.sizeOf26 rfl) ?_
             refine l_val rfl rfl rfl (r_load_blk rfl Tryz.isAgg26 rfl (hL.get 3 rfl) rfl) ?_
             refine l_val rfl rfl rfl (r_slice_from rfl Tryz.underlying26 Tryz.sizeOf3 rfl rfl (by decide) (by omega)) ?_
             refine l_by rfl rfl rfl (r_call rfl rfl Tryz.func62 rfl rfl) (numbers_rcalls _ nl _ _ _ _ ((hw.keep RInt.kept (Ext0.cells hE)).drop1 hwp)) ?_
             rintro _ w ⟨rfl, hX⟩
             replace hL := hL.ext0 hX
             replace hE := hE.step0 hX
             refine ⟨_, rfl, ?_⟩
             refine l_val rfl rfl rfl (r_pick rfl rfl) ?_
             refine as' rfl rfl rfl rfl ?_
             refine l_nil ?_
             refine c_ret ?_
             exact ⟨ret_bool rfl (by rw [formed_some hpa hpb hm, hon]; simp only [hr141, Bool.true_and, Bool.and_true, Bool.false_and, Bool.and_false, Bool.true_or, Bool.or_true, Bool.false_or, Bool.or_false, Bool.not_true, Bool.not_false, cond_true, cond_false]), hE⟩
            ·have hr141 := hb
             replace hb := of_decide_eq_false hb
             refine l_not rfl rfl rfl ?_
             refine l_not rfl rfl rfl ?_
             refine l_not rfl rfl rfl ?_
             refine l_not rfl rfl rfl ?_
             refine l_not rfl rfl rfl ?_
             refine l_val rfl rfl rfl (r_pick rfl rfl) ?_
             refine as' rfl rfl rfl rfl ?_
             refine l_nil ?_
             refine c_ret ?_
             exact ⟨ret_bool rfl (by rw [formed_some hpa hpb hm, hon]; simp only [hr141, Bool.true_and, Bool.and_true, Bool.false_and, Bool.and_false, Bool.true_or, Bool.or_true, Bool.false_or, Bool.or_false, Bool.not_true, Bool.not_false, cond_true, cond_false]), hE⟩
           ·have hr136 := hb
            have hm : manyF g f = some 1 := by unfold manyF; rw [if_neg h8, if_neg hw0, if_neg h9, if_neg hni, if_neg h7, if_neg (by simpa using hb)]
            refine c_skip ?_
            refine c_seq ?_
            refine c_ops ?_
            refine l_val rfl rfl rfl (r_fieldAddr (n := 0) rfl Tryz.underlying43 rfl Tryz.sizeOf26 rfl) ?_
            refine l_val rfl rfl rfl (r_load_blk rfl Tryz.isAgg26 rfl (hL.get 3 rfl) rfl) ?_
            refine l_val rfl rfl rfl (r_len rfl Tryz.underlying26 rfl) ?_
            refine l_val rfl rfl rfl (r_eql rfl rfl rfl) ?_
            refine as' rfl rfl rfl rfl ?_
            refine l_nil ?_
            refine c_ret ?_
            exact ⟨ret_bool rfl (by rw [formed_some hpa hpb hm, hon, one_any nl f.why]), hE⟩
end Go.Proofs.YtndophlnapjkhaaGreatDoor.Vc
namespace Go.Proofs.YtndophlnapjkhaaGreatDoor.Vc
open Go Go.RowKit
set_option linter.unusedVariables false
set_option linter.unusedSimpArgs false
theorem info_pr : (Tryz.prog.info? 32).map (fun i => (i.zero, i.size, i.bytes)) = some (some (.agg #[.int .i64 0, .int .i64 0]), 2, 16) := by kernel_rfl
theorem built_pr (a b : Int) : Tryz.prog.built 32 [(0, .int .i64 a), (1, .int .i64 b)] = some #[.int .i64 a, .int .i64 b] := by kernel_rfl
def NextRes (w0 : World) (r : FP × Bool) (en : Ending) (w' : World) : Prop := ∃ v, en = .returned (.tuple #[v, .bool r.2]) ∧ w'.ownsRow w0.heap.size 32 2 v r.1.length (r.1.map cells2).flatten ∧ Ext0 w0 w'
theorem by_union {g : List GNode} {f : Fact} (h8 : (gat g f.a).kind = 8) : byF g f = ((gat g f.a).l.map (fun m => (m, f.b)), true) := by
 unfold byF unionF
 simp [h8]
theorem by_bound {g : List GNode} {f : Fact} (h9 : (gat g f.a).kind = 9) (hw : iat f.why 0 = -1) : byF g f = ([(iat (gat g f.a).l 0, f.b)], true) := by
 unfold byF unionF boundF
 simp [h9, hw]
theorem by_loose {g : List GNode} {f : Fact} (h8 : (gat g f.a).kind ≠ 8) (hw : iat f.why 0 ≠ -1) (h : (gat g f.a).kind = 1 ∨ (chosenF g f).kind = 1) : byF g f = ([], true) := by
 unfold byF unionF boundF looseF
 simp [h8, hw, h]
theorem by_plain {g : List GNode} {f : Fact} (h8 : (gat g f.a).kind ≠ 8) (hw : iat f.why 0 ≠ -1) (h : ¬ ((gat g f.a).kind = 1 ∨ (chosenF g f).kind = 1)) : byF g f = plainR (gat g f.a) (chosenF g f) := by
 unfold byF unionF boundF looseF plainF
 simp [h8, hw, h]
def oddR (s t : GNode) : Bool := !decide (s.kind = t.kind) || (decide (s.kind = 5) && !decide (s.name = t.name)) || (decide (s.kind = 9) && !decide (s.num = t.num))
theorem NodeIs.nm {g : List GNode} {x : GNode} (h : NodeIs g x) : (x.kind ≠ 5 → x.name = ⟨#[]⟩) ∧ (x.kind ≠ 9 → x.num = 0) := by
 rcases h with ⟨h, _, _, hn, hm⟩ | ⟨h, _, _, hm⟩ | ⟨h, _, _, hn, hm⟩ | ⟨h, _, _, _, _, hn, hm⟩ | ⟨h, _, _, hn⟩
 ·exact ⟨fun _ => hn, fun _ => hm⟩
 ·exact ⟨fun h5 => absurd h h5, fun _ => hm⟩
 ·exact ⟨fun _ => hn, fun _ => hm⟩
 ·exact ⟨fun _ => hn, fun _ => hm⟩
 ·exact ⟨fun _ => hn, fun h9 => absurd h h9⟩
theorem oddR_eq {g : List GNode} {s t : GNode} (hs : NodeIs g s) (ht : NodeIs g t) : oddR s t = oddF s t := by
 unfold oddR oddF
 by_cases hk : s.kind = t.kind
 ·have e1 : (decide (s.kind = 5) && !decide (s.name = t.name)) = !decide (s.name = t.name) := by
   by_cases h5 : s.kind = 5
   ·simp [h5]
   ·rw [hs.nm.1 h5, ht.nm.1 (hk ▸ h5)]
    simp
  have e2 : (decide (s.kind = 9) && !decide (s.num = t.num)) = !decide (s.num = t.num) := by
   by_cases h9 : s.kind = 9
   ·simp [h9]
   ·rw [hs.nm.2 h9, ht.nm.2 (hk ▸ h9)]
    simp
  rw [e1, e2]
 ·simp [hk]
def LastAt (s : GNode) (key : ByteArray) (k : Nat) (at_ : Int) : Prop := (at_ = -1 ∧ ∀ j, j < k → kat s.keys j ≠ key) ∨ ∃ j, j < k ∧ kat s.keys j = key ∧ at_ = iat s.l j
theorem LastAt.zero (s : GNode) (key : ByteArray) : LastAt s key 0 (-1) := .inl ⟨rfl, fun j hj => absurd hj (Nat.not_lt_zero _)⟩
theorem LastAt.hit {s : GNode} {key : ByteArray} {k : Nat} (h : kat s.keys k = key) : LastAt s key (k + 1) (iat s.l k) := .inr ⟨k, Nat.lt_succ_self _, h, rfl⟩
theorem LastAt.miss {s : GNode} {key : ByteArray} {k : Nat} {a : Int} (hl : LastAt s key k a) (h : kat s.keys k ≠ key) : LastAt s key (k + 1) a := by
 rcases hl with ⟨h1, h2⟩ | ⟨j, h1, h2, h3⟩
 ·refine .inl ⟨h1, fun j hj => ?_⟩
  rcases Nat.lt_or_eq_of_le (Nat.le_of_lt_succ hj) with h4 | rfl
  ·exact h2 j h4
  ·exact h
 ·exact .inr ⟨j, by omega, h2, h3⟩
theorem LastAt.is {s : GNode} {key : ByteArray} {a : Int} (hr : risesB s.keys = true) (h : LastAt s key s.keys.length a) : a = fieldF s key := by
 rcases h with ⟨rfl, h2⟩ | ⟨j, h1, h2, rfl⟩
 ·have : idxS s.keys key = none := by
   unfold idxS
   refine findS_no _ _ _ fun x hx => ?_
   obtain ⟨j, hj⟩ := List.mem_iff_getElem?.1 hx
   have hl := (List.getElem?_eq_some_iff.1 hj).1
   rw [kat_some hl] at hj
   cases hj
   exact decide_eq_false fun e => h2 j hl e.symm
  unfold fieldF
  rw [this]
  rfl
 ·have : idxS s.keys key = some j := by
   unfold idxS
   have := findS_at (fun x => decide (key = x)) 0 s.keys j (kat s.keys j) (kat_some h1) (decide_eq_true h2.symm) (fun i y hi hy => by
    refine decide_eq_false fun e => ?_
    have hl := (List.getElem?_eq_some_iff.1 hy).1
    rw [kat_some hl] at hy
    cases hy
    have := rises_all hr hi h1
    rw [h2, ← e, ltB_irrefl] at this
    cases this)
   rwa [Nat.zero_add] at this
  exact (fieldF_some this).symm
set_option maxHeartbeats 8000000 in
theorem next_rcalls (w0 : World) (Ag : Option Addr) (cg : Nat) (g : List GNode) (hg : Nodes w0 Ag cg g) (hok : GraphOk g) (f : Fact) (Aw : Option Addr) (cw : Nat) (hw : Ints w0 Aw cw f.why) (hf : FactOk g f) :
    Calls Tryz.prog 58 [.slice Ag g.length cg, .agg (factCells f Aw cw).toArray].toArray w0 (NextRes w0 (byF g f)) := by
 have hE : Ext0 w0 w0 := Ext.refl _ _
 have hL : Has w0 [] := trivial
 have ha := hf.a
 obtain ⟨s, hs⟩ : ∃ s, s = gat g f.a := ⟨_, rfl⟩
 have his := hok.is (gat_mem' ha.1 ha.2)
 have hsbig := hok.fits.lists _ (gat_mem' ha.1 ha.2)
 have hfw := hf.why
 have hfi := hf.idx
 have hby1 := @by_union g f
 have hby2 := @by_bound g f
 have hby3 := @by_loose g f
 have hby4 := @by_plain g f
 obtain ⟨Ak, ck, Al, cl, hcell, hsk, hsl⟩ := hg.node f.a ha.1 ha.2
 have hside : (gat g f.a).kind ≠ 8 → SideOk g (gat g f.a) := fun h => SideOk.of hok (gat_mem' ha.1 ha.2) h
 rw [← hs] at his hsbig hfw hfi hby1 hby2 hby3 hby4 hcell hsk hsl hside
 refine calls [4, 5] Tryz.func58 rfl rfl rfl rfl ?_
 refine c_seq ?_
 refine c_ops ?_
 refine l_new rfl rfl rfl (n_box rfl hL hE) ?_
 rintro _ w ⟨b3, rfl, hb3, hL, hE, hX⟩
 first | replace hEm := Ext.trans hEm hX | skip
 refine as' rfl rfl rfl rfl ?_
 refine as' rfl rfl rfl rfl ?_
 refine l_nil ?_
 refine c_seq ?_
 refine c_ops ?_
 refine mv' rfl rfl rfl rfl ?_
 refine l_val rfl rfl rfl (r_fieldAddr (n := 0) rfl Tryz.underlying43 rfl Tryz.sizeOf3 rfl) ?_
 refine l_val rfl rfl rfl (r_load_blk rfl Tryz.isAgg3 rfl (hL.get 0 rfl) rfl) ?_
 refine l_val rfl rfl rfl (r_indexAddr_sl rfl Tryz.underlying22 Tryz.sizeOf46 rfl hg.is rfl ha.1 ha.2) ?_
 refine l_val rfl rfl rfl (r_load_agg (vs := nodeCells s Ak ck Al cl) rfl Tryz.isAgg46 Tryz.sizeOf46 rfl (fun j v hj => Ext0.cells hE _ _ (hcell j v hj))) ?_
 refine l_new rfl rfl rfl (n_alloc rfl Tryz.zeroValue46 hL hE) ?_
 rintro _ w ⟨b6, rfl, hb6, hL, hE, hX⟩
 first | replace hEm := Ext.trans hEm hX | skip
 refine l_new_do rfl rfl (r_store 0 rfl Tryz.sizeOf46 rfl hL hE rfl rfl rfl rfl (fun h => absurd h (Nat.not_lt.2 hb6))) ?_
 rintro w ⟨hL, hE, hz, hk⟩; replace hL : Has w [.blk b6 (.cells (nodeCells s Ak ck Al cl).toArray 46 (0, 0)), .blk b3 (.cells (factCells f Aw cw).toArray 43 (0, 0))] := hL
 refine l_nil ?_
 refine c_seq ?_
 refine c_ops ?_
 refine as' rfl rfl rfl rfl ?_
 refine l_nil ?_
 refine c_seq ?_
 refine c_seq ?_
 refine c_ops ?_
 refine l_val rfl rfl rfl (r_fieldAddr (n := 0) rfl Tryz.underlying46 rfl Tryz.sizeOf3 rfl) ?_
 refine l_val rfl rfl rfl (r_load_blk rfl Tryz.isAgg3 rfl (hL.get 0 rfl) rfl) ?_
 refine l_val rfl rfl rfl (r_eql rfl rfl rfl) ?_
 refine l_nil ?_
 refine c_cond rfl (fun hb => ?_) (fun hb => ?_)
 ·have hr20 := hb
  replace hb := of_decide_eq_true hb
  have hby := hby1 hb
  replace hL := hL.nilRow w0.heap.size 32 2
  refine c_seq ?_
  refine c_seq ?_
  refine c_ops ?_
  refine as' rfl rfl rfl rfl ?_
  refine l_nil ?_
  refine c_block ?_
  refine c_loop0 (fun m1 e w => (e 0 = .slice Ag g.length cg ∧ e 3 = .pointer (some ⟨b3, 0, none⟩) ∧ e 6 = .pointer (some ⟨b6, 0, none⟩)) ∧ ∃ (k : Nat) (A5 : Option Addr) (c5 : Nat), k ≤ s.l.length ∧ m1 = s.l.length - k ∧ e 8 = .int .i64 (k : Nat) ∧ e 7 = .slice A5 ((s.l.take k).map (fun m => (m, f.b))).length c5 ∧ Has w [.row w0.heap.size 32 2 (.slice A5 ((s.l.take k).map (fun m => (m, f.b))).length c5) (((s.l.take k).map (fun m => (m, f.b)))).length ((((s.l.take k).map (fun m => (m, f.b)))).map cells2).flatten, .blk b6 (.cells (nodeCells s Ak ck Al cl).toArray 46 (0, 0)), .blk b3 (.cells (factCells f Aw cw).toArray 43 (0, 0))] ∧ Ext0 w0 w) (s.l.length) ?_ ?_
  ·exact ⟨⟨rfl, rfl, rfl⟩, 0, none, 0, Nat.zero_le _, rfl, rfl, rfl, hL, hE⟩
  rintro m1 e w ⟨⟨hq0, hq3, hq6⟩, hI⟩
  refine c_know (t := 0) (by exact hq0) ?_
  refine c_know (t := 3) (by exact hq3) ?_
  refine c_know (t := 6) (by exact hq6) ?_
  clear hq0 hq3 hq6
  obtain ⟨k, A5, c5, hkl, hkm, h8s, h7s, hL, hE⟩ := hI
  refine c_know (t := 8) (by exact h8s) ?_
  refine c_know (t := 7) (by exact h7s) ?_
  refine c_seq ?_
  refine c_seq ?_
  refine c_ops ?_
  refine mv' rfl rfl rfl rfl ?_
  refine l_val rfl rfl rfl (r_fieldAddr (n := 0) rfl Tryz.underlying46 rfl Tryz.sizeOf26 rfl) ?_
  refine l_val rfl rfl rfl (r_load_blk rfl Tryz.isAgg26 rfl (hL.get 1 rfl) rfl) ?_
  refine l_val rfl rfl rfl (r_len rfl Tryz.underlying26 rfl) ?_
  refine l_val rfl rfl rfl (r_lss rfl rfl rfl) ?_
  refine l_nil ?_
  refine c_cond rfl (fun hb => ?_) (fun hb => ?_)
  ·have hr25 := hb
   replace hb := of_decide_eq_true hb
   have hklt : k < s.l.length := by omega
   have htk1 : (s.l.take (k + 1)).map (fun m => (m, f.b)) = ((s.l.take k).map (fun m => (m, f.b))) ++ [((iat s.l k), f.b)] := by rw [take_snoc (iat_nat hklt)]; simp
   refine c_skip ?_
   refine c_seq ?_
   refine c_block ?_
   refine c_draw mixed (hL.sub (.cons _ (.cons_cons _ (.cons_cons _ .slnil)))) hE ?_
   replace hL := hL.drew
   replace hE := hE.drew
   have hK := hL.sub (.cons _ (.cons_cons _ (.cons_cons _ .slnil)))
   refine h_t 0 rfl rfl (by kernel_rfl) (fun _ _ _ h => h) ⟨hK, hE⟩ rfl (fun W hW => r_move rfl) ?_
   refine h_listed (listed' := #[T',F',F',F',F',F',F',F',F',F',F',F']) (by kernel_rfl) ?_
   refine h_t 1 rfl rfl (by kernel_rfl) (fun _ _ _ h => h) ⟨hK, hE⟩ rfl (fun W hW => r_fieldAddr (n := 0) rfl Tryz.underlying46 rfl Tryz.sizeOf26 rfl) ?_
   refine h_listed (listed' := #[T',T',F',F',F',F',F',F',F',F',F',F']) (by kernel_rfl) ?_
   refine h_t 2 rfl rfl (by kernel_rfl) (fun _ _ _ h => h) ⟨hK, hE⟩ rfl (fun W hW => r_load_blk rfl Tryz.isAgg26 rfl (hW.1.get 0 rfl) rfl) ?_
   refine h_listed (listed' := #[T',T',T',F',F',F',F',F',F',F',F',F']) (by kernel_rfl) ?_
   refine h_t 3 rfl rfl (by kernel_rfl) (fun _ _ _ h => h) ⟨hK, hE⟩ rfl (fun W hW => r_move rfl) ?_
   refine h_listed (listed' := #[T',T',T',T',F',F',F',F',F',F',F',F']) (by kernel_rfl) ?_
   refine h_t 4 rfl rfl (by kernel_rfl) (fun _ _ _ h => h) ⟨hK, hE⟩ rfl (fun W hW => r_indexAddr_sl rfl Tryz.underlying26 Tryz.sizeOf3 rfl hsl.is rfl (by omega) (by omega)) ?_
   refine h_listed (listed' := #[T',T',T',T',T',F',F',F',F',F',F',F']) (by kernel_rfl) ?_
   refine h_t 5 rfl rfl (by kernel_rfl) (fun _ _ _ h => h) ⟨hK, hE⟩ rfl (fun W hW => r_load (v := .int .i64 (iat s.l k)) rfl Tryz.isAgg3 rfl ((hsl.keep RInt.kept (Ext0.cells hW.2)).int k (by omega) (by omega))) ?_
   refine h_listed (listed' := #[T',T',T',T',T',T',F',F',F',F',F',F']) (by kernel_rfl) ?_
   refine h_t 6 rfl rfl (by kernel_rfl) (fun _ _ _ h => h) ⟨hK, hE⟩ rfl (fun W hW => r_fieldAddr (n := 0) rfl Tryz.underlying43 rfl Tryz.sizeOf3 rfl) ?_
   refine h_listed (listed' := #[T',T',T',T',T',T',T',F',F',F',F',F']) (by kernel_rfl) ?_
   refine h_t 7 rfl rfl (by kernel_rfl) (fun _ _ _ h => h) ⟨hK, hE⟩ rfl (fun W hW => r_load_blk rfl Tryz.isAgg3 rfl (hW.1.get 1 rfl) rfl) ?_
   refine h_listed (listed' := #[T',T',T',T',T',T',T',T',F',F',F',F']) (by kernel_rfl) ?_
   refine h_t 8 rfl rfl (by kernel_rfl) (fun _ _ _ h => h) ⟨hK, hE⟩ rfl (fun W hW => r_build rfl rfl (built_pr _ _)) ?_
   refine h_listed (listed' := #[T',T',T',T',T',T',T',T',T',F',F',F']) (by kernel_rfl) ?_
   refine h_new 9 rfl rfl (by kernel_rfl) rfl (n_slice (cells := #[.int .i64 (iat s.l k), .int .i64 f.b]) rfl Tryz.underlying23 Tryz.sizeOf32 Tryz.zeroValue32 rfl rfl (fill_pair _ _) hL hE) ?_
   rintro _ w ⟨s37, rfl, hs37, hL, hE, hX⟩
   first | replace hEm := Ext.trans hEm hX | skip
   have hK := hL.sub (.cons _ (.cons _ (.cons_cons _ (.cons_cons _ .slnil))))
   refine ⟨⟨hK, hE⟩, ?_⟩
   refine h_listed (listed' := #[T',T',T',T',T',T',T',T',T',T',F',F']) (by kernel_rfl) ?_
   refine h_new 10 rfl rfl (by kernel_rfl) rfl (r_append (ys := cells2 ((iat s.l k), f.b)) 1 rfl Tryz.underlying23 info_pr rfl (by decide) rfl rfl hL hE rfl rfl (blk_raw (cs := #[.int .i64 (iat s.l k), .int .i64 f.b]) (hL.get 0 rfl) rfl) (fun u hu => by simp [cells2] at hu; rcases hu with rfl | rfl <;> rfl) (by simp; omega) (by simp; omega) (Nat.le_refl _) hE.size) ?_
   rintro _ w ⟨hL, hE, hk⟩
   obtain ⟨A8, c8, rfl⟩ := ownsRow_slice (hL.row 1 rfl)
   replace hL : Has w [.blk s37 (.cells #[.int .i64 (iat s.l k), .int .i64 f.b] 32 (0, 0)), .row w0.heap.size 32 2 (.slice A8 (((s.l.take k).map (fun m => (m, f.b))) ++ [((iat s.l k), f.b)]).length c8) (((s.l.take k).map (fun m => (m, f.b))) ++ [((iat s.l k), f.b)]).length ((((s.l.take k).map (fun m => (m, f.b))) ++ [((iat s.l k), f.b)]).map cells2).flatten, .blk b6 (.cells (nodeCells s Ak ck Al cl).toArray 46 (0, 0)), .blk b3 (.cells (factCells f Aw cw).toArray 43 (0, 0))] := by rw [← pairs_snoc, List.length_append]; exact hL
   first | replace hEm := Ext.trans hEm hX | skip
   have hK := hL.sub (.cons _ (.cons _ (.cons_cons _ (.cons_cons _ .slnil))))
   refine ⟨⟨hK, hE⟩, ?_⟩
   refine h_listed (listed' := #[T',T',T',T',T',T',T',T',T',T',T',F']) (by kernel_rfl) ?_
   refine h_t 11 rfl rfl (by kernel_rfl) (fun _ _ _ h => h) ⟨hK, hE⟩ rfl (fun W hW => r_assign rfl) ?_
   refine h_listed (listed' := #[T',T',T',T',T',T',T',T',T',T',T',T']) (by kernel_rfl) ?_
   refine h_done (by kernel_rfl) ?_
   refine c_ops ?_
   refine mv' rfl rfl rfl rfl ?_
   refine l_val rfl rfl rfl (r_add rfl rfl rfl) ?_
   refine as' rfl rfl rfl rfl ?_
   refine l_nil ?_
   exact ⟨s.l.length - (k + 1), by omega, ⟨rfl, rfl, rfl⟩, k + 1, A8, c8, by omega, rfl, by show Value.int .i64 (IntKind.i64.wrap ((k : Int) + 1)) = _; rw [wrap_succ hklt hsl.max], congrArg (fun n => Value.slice A8 n c8) (by rw [htk1, List.length_append]; rfl), by rw [htk1]; exact hL.tail, hE⟩
  ·have hr25 := hb
   replace hb := of_decide_eq_false hb
   obtain rfl : k = s.l.length := by omega
   have hT : (s.l.take s.l.length).map (fun m => (m, f.b)) = s.l.map (fun m => (m, f.b)) := by rw [List.take_length]
   refine c_exit ?_
   refine c_seq ?_
   refine c_ops ?_
   refine mv' rfl rfl rfl rfl ?_
   refine as' rfl rfl rfl rfl ?_
   refine as' rfl rfl rfl rfl ?_
   refine l_nil ?_
   refine c_ret ?_
   rw [hby]; exact ⟨_, rfl, by show World.ownsRow _ _ _ _ _ (s.l.map (fun m => (m, f.b))).length ((s.l.map (fun m => (m, f.b))).map cells2).flatten; rw [← hT]; exact hL.row 0 rfl, hE⟩
 ·have hr20 := hb
  replace hb := of_decide_eq_false hb
  have h8 : s.kind ≠ 8 := hb
  have hwp := why_pos (hfw h8)
  replace hside := hside h8
  refine c_skip ?_
  refine c_seq ?_
  refine c_seq ?_
  refine c_ops ?_
  refine l_val rfl rfl rfl (r_fieldAddr (n := 0) rfl Tryz.underlying43 rfl Tryz.sizeOf26 rfl) ?_
  refine l_val rfl rfl rfl (r_load_blk rfl Tryz.isAgg26 rfl (hL.get 1 rfl) rfl) ?_
  refine l_val rfl rfl rfl (r_indexAddr_sl rfl Tryz.underlying26 Tryz.sizeOf3 rfl hw.is rfl (by omega) (by omega)) ?_
  refine l_val rfl rfl rfl (r_load (v := .int .i64 (iat f.why 0)) rfl Tryz.isAgg3 rfl ((hw.keep RInt.kept (Ext0.cells hE)).int 0 (by omega) (by omega))) ?_
  refine l_val rfl rfl rfl (r_eql rfl rfl rfl) ?_
  refine l_nil ?_
  refine c_cond rfl (fun hb => ?_) (fun hb => ?_)
  ·have hr44 := hb
   replace hb := of_decide_eq_true hb
   have h9 : s.kind = 9 := Classical.byContradiction fun h => by have := hfi h8 (fun h2 => h h2.1); omega
   have hby := hby2 h9 hb
   have hs1 := hside.var h9
   refine c_seq ?_
   refine c_draw mixed (hL) hE ?_
   replace hL := hL.drew
   replace hE := hE.drew
   have hK := hL
   refine h_t 0 rfl rfl (by kernel_rfl) (fun _ _ _ h => h) ⟨hK, hE⟩ rfl (fun W hW => r_fieldAddr (n := 0) rfl Tryz.underlying46 rfl Tryz.sizeOf26 rfl) ?_
   refine h_t 1 rfl rfl (by kernel_rfl) (fun _ _ _ h => h) ⟨hK, hE⟩ rfl (fun W hW => r_load_blk rfl Tryz.isAgg26 rfl (hW.1.get 0 rfl) rfl) ?_
   refine h_t 2 rfl rfl (by kernel_rfl) (fun _ _ _ h => h) ⟨hK, hE⟩ rfl (fun W hW => r_indexAddr_sl rfl Tryz.underlying26 Tryz.sizeOf3 rfl hsl.is rfl (by omega) (by omega)) ?_
   refine h_t 3 rfl rfl (by kernel_rfl) (fun _ _ _ h => h) ⟨hK, hE⟩ rfl (fun W hW => r_load (v := .int .i64 (iat s.l 0)) rfl Tryz.isAgg3 rfl ((hsl.keep RInt.kept (Ext0.cells hW.2)).int 0 (by omega) (by omega))) ?_
   refine h_t 4 rfl rfl (by kernel_rfl) (fun _ _ _ h => h) ⟨hK, hE⟩ rfl (fun W hW => r_fieldAddr (n := 0) rfl Tryz.underlying43 rfl Tryz.sizeOf3 rfl) ?_
   refine h_t 5 rfl rfl (by kernel_rfl) (fun _ _ _ h => h) ⟨hK, hE⟩ rfl (fun W hW => r_load_blk rfl Tryz.isAgg3 rfl (hW.1.get 1 rfl) rfl) ?_
   refine h_t 6 rfl rfl (by kernel_rfl) (fun _ _ _ h => h) ⟨hK, hE⟩ rfl (fun W hW => r_build rfl rfl (built_pr _ _)) ?_
   refine h_new 7 rfl rfl (by kernel_rfl) rfl (n_slice (cells := #[.int .i64 (iat s.l 0), .int .i64 f.b]) rfl Tryz.underlying23 Tryz.sizeOf32 Tryz.zeroValue32 rfl rfl (fill_pair _ _) hL hE) ?_
   rintro _ w ⟨s52, rfl, hs52, hL, hE, hX⟩
   first | replace hEm := Ext.trans hEm hX | skip
   have hK := hL.sub (.cons _ (.cons_cons _ (.cons_cons _ .slnil)))
   refine ⟨⟨hK, hE⟩, ?_⟩
   refine h_t 8 rfl rfl (by kernel_rfl) (fun _ _ _ h => h) ⟨hK, hE⟩ rfl (fun W hW => r_assign rfl) ?_
   refine h_t 9 rfl rfl (by kernel_rfl) (fun _ _ _ h => h) ⟨hK, hE⟩ rfl (fun W hW => r_assign rfl) ?_
   refine h_done (by kernel_rfl) ?_
   refine c_ret ?_
   rw [hby]; exact ⟨_, rfl, (Has.asRow (n := 1) (sz := 2) hL hs52 rfl (by decide)).row 0 rfl, hE⟩
  ·have hr44 := hb
   replace hb := of_decide_eq_false hb
   have hwi : 0 ≤ iat f.why 0 ∧ iat f.why 0 < (membersG g f.b).length := hfi h8 (fun h => hb h.2)
   have hch := chosen_in hok hwi
   obtain ⟨t, ht⟩ : ∃ t, t = chosenF g f := ⟨_, rfl⟩
   have hit := hok.is (gat_mem' hch.1 hch.2.1)
   have htside := SideOk.of hok (gat_mem' hch.1 hch.2.1) hch.2.2
   obtain ⟨Bk, dk, Bl, dl, hcell2, htk, htl⟩ := hg.node _ hch.1 hch.2.1
   have htbig := hok.fits.lists _ (gat_mem' hch.1 hch.2.1)
   rw [show gat g (iat (membersG g f.b) (iat f.why 0)) = t from ht.symm] at htbig hit htside hcell2 htk htl
   replace hby3 := hby3 h8 hb
   replace hby4 := hby4 h8 hb
   rw [← ht] at hby3 hby4
   refine c_skip ?_
   refine c_merge [9, 53, 54, 55, 56, 57, 58, 59, 60, 61, 62, 63, 64, 65] (fun e w => ∃ b9, e 9 = .pointer (some ⟨b9, 0, none⟩) ∧ Has w [.blk b9 (.cells (nodeCells t Bk dk Bl dl).toArray 46 (0, 0)), .blk b6 (.cells (nodeCells s Ak ck Al cl).toArray 46 (0, 0)), .blk b3 (.cells (factCells f Aw cw).toArray 43 (0, 0))] ∧ Ext0 w0 w) ?_ ?_
   ·skip
    refine c_draw mixed (hL) hE ?_
    replace hL := hL.drew
    replace hE := hE.drew
    have hK := hL
    refine h_t 0 rfl rfl (by kernel_rfl) (fun _ _ _ h => h) ⟨hK, hE⟩ rfl (fun W hW => r_move rfl) ?_
    refine h_listed (listed' := #[T',F',F',F',F',F',F',F',F',F',F',F',F',F',F']) (by kernel_rfl) ?_
    refine h_t 1 rfl rfl (by kernel_rfl) (fun _ _ _ h => h) ⟨hK, hE⟩ rfl (fun W hW => r_move rfl) ?_
    refine h_listed (listed' := #[T',T',F',F',F',F',F',F',F',F',F',F',F',F',F']) (by kernel_rfl) ?_
    refine h_t 2 rfl rfl (by kernel_rfl) (fun _ _ _ h => h) ⟨hK, hE⟩ rfl (fun W hW => r_fieldAddr (n := 0) rfl Tryz.underlying43 rfl Tryz.sizeOf3 rfl) ?_
    refine h_listed (listed' := #[T',T',T',F',F',F',F',F',F',F',F',F',F',F',F']) (by kernel_rfl) ?_
    refine h_t 3 rfl rfl (by kernel_rfl) (fun _ _ _ h => h) ⟨hK, hE⟩ rfl (fun W hW => r_load_blk rfl Tryz.isAgg3 rfl (hW.1.get 1 rfl) rfl) ?_
    refine h_listed (listed' := #[T',T',T',T',F',F',F',F',F',F',F',F',F',F',F']) (by kernel_rfl) ?_
    refine h_t 5 rfl rfl (by kernel_rfl) (fun _ _ _ h => h) ⟨hK, hE⟩ rfl (fun W hW => r_fieldAddr (n := 0) rfl Tryz.underlying43 rfl Tryz.sizeOf26 rfl) ?_
    refine h_listed (listed' := #[T',T',T',T',F',T',F',F',F',F',F',F',F',F',F']) (by kernel_rfl) ?_
    refine h_t 6 rfl rfl (by kernel_rfl) (fun _ _ _ h => h) ⟨hK, hE⟩ rfl (fun W hW => r_load_blk rfl Tryz.isAgg26 rfl (hW.1.get 1 rfl) rfl) ?_
    refine h_listed (listed' := #[T',T',T',T',F',T',T',F',F',F',F',F',F',F',F']) (by kernel_rfl) ?_
    refine h_t 7 rfl rfl (by kernel_rfl) (fun _ _ _ h => h) ⟨hK, hE⟩ rfl (fun W hW => r_indexAddr_sl rfl Tryz.underlying26 Tryz.sizeOf3 rfl hw.is rfl (by omega) (by omega)) ?_
    refine h_listed (listed' := #[T',T',T',T',F',T',T',T',F',F',F',F',F',F',F']) (by kernel_rfl) ?_
    refine h_t 8 rfl rfl (by kernel_rfl) (fun _ _ _ h => h) ⟨hK, hE⟩ rfl (fun W hW => r_load (v := .int .i64 (iat f.why 0)) rfl Tryz.isAgg3 rfl ((hw.keep RInt.kept (Ext0.cells hW.2)).int 0 (by omega) (by omega))) ?_
    refine h_listed (listed' := #[T',T',T',T',F',T',T',T',T',F',F',F',F',F',F']) (by kernel_rfl) ?_
    refine h_many [4, 13] (by kernel_rfl) ⟨?_, ?_, trivial⟩
    ·refine o_by 4 rfl rfl rfl rfl (r_call rfl rfl Tryz.func63 rfl rfl) (rMembers_calls _ Ag cg g (hg.keep RNode.kept (Ext0.cells hE)) hok.fits f.b) ?_
     rintro _ w ⟨v, rfl, hrow, hX⟩
     replace hL := hL.ext0 hX
     replace hE := hE.step0 hX
     obtain ⟨A2, c2, rfl, hmem, _⟩ := Sl.ofInts hrow
     obtain ⟨wm, hwm⟩ : ∃ x, x = w := ⟨_, rfl⟩
     rw [← hwm] at hmem
     have hEm : Ext0 wm w := hwm ▸ Ext.refl _ _
     have hK := hL
     refine ⟨_, rfl, ⟨hK, hE⟩, ?_⟩
     refine h_listed (listed' := #[T',T',T',T',T',T',T',T',T',F',F',F',F',F',F']) (by kernel_rfl) ?_
     refine h_t 9 rfl rfl (by kernel_rfl) (fun _ _ _ h => h) ⟨hK, hE⟩ rfl (fun W hW => r_indexAddr_sl rfl Tryz.underlying26 Tryz.sizeOf3 rfl hmem.is rfl hwi.1 hwi.2) ?_
     refine h_listed (listed' := #[T',T',T',T',T',T',T',T',T',T',F',F',F',F',F']) (by kernel_rfl) ?_
     refine h_many [10, 13] (by kernel_rfl) ⟨?_, ?_, trivial⟩
     ·refine o_val 10 rfl rfl rfl rfl (r_load (v := .int .i64 (iat (membersG g f.b) (iat f.why 0))) rfl Tryz.isAgg3 rfl ((hmem.keep RInt.kept (Ext0.cells hEm)).int _ hwi.1 hwi.2)) ⟨hK, hE⟩ ?_
      refine h_listed (listed' := #[T',T',T',T',T',T',T',T',T',T',T',F',F',F',F']) (by kernel_rfl) ?_
      refine h_t 11 rfl rfl (by kernel_rfl) (fun _ _ _ h => h) ⟨hK, hE⟩ rfl (fun W hW => r_indexAddr_sl rfl Tryz.underlying22 Tryz.sizeOf46 rfl hg.is rfl hch.1 hch.2.1) ?_
      refine h_listed (listed' := #[T',T',T',T',T',T',T',T',T',T',T',T',F',F',F']) (by kernel_rfl) ?_
      refine h_t 12 rfl rfl (by kernel_rfl) (fun _ _ _ h => h) ⟨hK, hE⟩ rfl (fun W hW => r_load_agg (vs := nodeCells t Bk dk Bl dl) rfl Tryz.isAgg46 Tryz.sizeOf46 rfl (fun j v hj => (Ext0.cells hW.2) _ _ (hcell2 j v hj))) ?_
      refine h_listed (listed' := #[T',T',T',T',T',T',T',T',T',T',T',T',T',F',F']) (by kernel_rfl) ?_
      refine h_new 13 rfl rfl (by kernel_rfl) rfl (n_alloc rfl Tryz.zeroValue46 hL hE) ?_
      rintro _ w ⟨b9, rfl, hb9, hL, hE, hX⟩
      first | replace hEm := Ext.trans hEm hX | skip
      have hK := hL.sub (.cons _ (.cons_cons _ (.cons_cons _ .slnil)))
      refine ⟨⟨hK, hE⟩, ?_⟩
      refine h_listed (listed' := #[T',T',T',T',T',T',T',T',T',T',T',T',T',T',F']) (by kernel_rfl) ?_
      refine h_new_do 14 rfl rfl (by kernel_rfl) rfl (r_store 0 rfl Tryz.sizeOf46 rfl hL hE rfl rfl rfl rfl (fun h => absurd h (Nat.not_lt.2 hb9))) ?_
      rintro w ⟨hL, hE, hz, hk⟩; replace hL : Has w [.blk b9 (.cells (nodeCells t Bk dk Bl dl).toArray 46 (0, 0)), .blk b6 (.cells (nodeCells s Ak ck Al cl).toArray 46 (0, 0)), .blk b3 (.cells (factCells f Aw cw).toArray 43 (0, 0))] := hL
      have hK := hL.sub (.cons _ (.cons_cons _ (.cons_cons _ .slnil)))
      refine ⟨⟨hK, hE⟩, ?_⟩
      refine h_listed (listed' := #[T',T',T',T',T',T',T',T',T',T',T',T',T',T',T']) (by kernel_rfl) ?_
      refine h_done (by kernel_rfl) ?_
      refine ag' ?_
      exact ⟨b9, rfl, (((hL.front 2 rfl).front 2 rfl).front 2 rfl), hE⟩
     ·refine o_new 13 rfl rfl rfl rfl (n_alloc rfl Tryz.zeroValue46 hL hE) ?_
      rintro _ w ⟨b9, rfl, hb9, hL, hE, hX⟩
      first | replace hEm := Ext.trans hEm hX | skip
      have hK := hL.sub (.cons _ (.cons_cons _ (.cons_cons _ .slnil)))
      refine ⟨⟨hK, hE⟩, ?_⟩
      refine h_listed (listed' := #[T',T',T',T',T',T',T',T',T',T',F',F',F',T',F']) (by kernel_rfl) ?_
      refine h_one 10 rfl rfl (by kernel_rfl) rfl (r_load (v := .int .i64 (iat (membersG g f.b) (iat f.why 0))) rfl Tryz.isAgg3 rfl ((hmem.keep RInt.kept (Ext0.cells hEm)).int _ hwi.1 hwi.2)) ⟨hK, hE⟩ ?_
      refine h_listed (listed' := #[T',T',T',T',T',T',T',T',T',T',T',F',F',T',F']) (by kernel_rfl) ?_
      refine h_t 11 rfl rfl (by kernel_rfl) (fun _ _ _ h => h) ⟨hK, hE⟩ rfl (fun W hW => r_indexAddr_sl rfl Tryz.underlying22 Tryz.sizeOf46 rfl hg.is rfl hch.1 hch.2.1) ?_
      refine h_listed (listed' := #[T',T',T',T',T',T',T',T',T',T',T',T',F',T',F']) (by kernel_rfl) ?_
      refine h_t 12 rfl rfl (by kernel_rfl) (fun _ _ _ h => h) ⟨hK, hE⟩ rfl (fun W hW => r_load_agg (vs := nodeCells t Bk dk Bl dl) rfl Tryz.isAgg46 Tryz.sizeOf46 rfl (fun j v hj => (Ext0.cells hW.2) _ _ (hcell2 j v hj))) ?_
      refine h_listed (listed' := #[T',T',T',T',T',T',T',T',T',T',T',T',T',T',F']) (by kernel_rfl) ?_
      refine h_new_do 14 rfl rfl (by kernel_rfl) rfl (r_store 0 rfl Tryz.sizeOf46 rfl hL hE rfl rfl rfl rfl (fun h => absurd h (Nat.not_lt.2 hb9))) ?_
      rintro w ⟨hL, hE, hz, hk⟩; replace hL : Has w [.blk b9 (.cells (nodeCells t Bk dk Bl dl).toArray 46 (0, 0)), .blk b6 (.cells (nodeCells s Ak ck Al cl).toArray 46 (0, 0)), .blk b3 (.cells (factCells f Aw cw).toArray 43 (0, 0))] := hL
      have hK := hL.sub (.cons _ (.cons_cons _ (.cons_cons _ .slnil)))
      refine ⟨⟨hK, hE⟩, ?_⟩
      refine h_listed (listed' := #[T',T',T',T',T',T',T',T',T',T',T',T',T',T',T']) (by kernel_rfl) ?_
      refine h_done (by kernel_rfl) ?_
      refine ag' ?_
      exact ⟨b9, rfl, (((hL.front 2 rfl).front 2 rfl).front 2 rfl), hE⟩
    ·refine o_new 13 rfl rfl rfl rfl (n_alloc rfl Tryz.zeroValue46 hL hE) ?_
     rintro _ w ⟨b9, rfl, hb9, hL, hE, hX⟩
     first | replace hEm := Ext.trans hEm hX | skip
     have hK := hL.sub (.cons _ (.cons_cons _ (.cons_cons _ .slnil)))
     refine ⟨⟨hK, hE⟩, ?_⟩
     refine h_listed (listed' := #[T',T',T',T',F',T',T',T',T',F',F',F',F',T',F']) (by kernel_rfl) ?_
     refine h_by 4 rfl rfl (by kernel_rfl) rfl (r_call rfl rfl Tryz.func63 rfl rfl) (rMembers_calls _ Ag cg g (hg.keep RNode.kept (Ext0.cells hE)) hok.fits f.b) ?_
     rintro _ w ⟨v, rfl, hrow, hX⟩
     replace hL := hL.ext0 hX
     replace hE := hE.step0 hX
     obtain ⟨A2, c2, rfl, hmem, _⟩ := Sl.ofInts hrow
     obtain ⟨wm, hwm⟩ : ∃ x, x = w := ⟨_, rfl⟩
     rw [← hwm] at hmem
     have hEm : Ext0 wm w := hwm ▸ Ext.refl _ _
     have hK := hL.sub (.cons _ (.cons_cons _ (.cons_cons _ .slnil)))
     refine ⟨_, rfl, ⟨hK, hE⟩, ?_⟩
     refine h_listed (listed' := #[T',T',T',T',T',T',T',T',T',F',F',F',F',T',F']) (by kernel_rfl) ?_
     refine h_t 9 rfl rfl (by kernel_rfl) (fun _ _ _ h => h) ⟨hK, hE⟩ rfl (fun W hW => r_indexAddr_sl rfl Tryz.underlying26 Tryz.sizeOf3 rfl hmem.is rfl hwi.1 hwi.2) ?_
     refine h_listed (listed' := #[T',T',T',T',T',T',T',T',T',T',F',F',F',T',F']) (by kernel_rfl) ?_
     refine h_one 10 rfl rfl (by kernel_rfl) rfl (r_load (v := .int .i64 (iat (membersG g f.b) (iat f.why 0))) rfl Tryz.isAgg3 rfl ((hmem.keep RInt.kept (Ext0.cells hEm)).int _ hwi.1 hwi.2)) ⟨hK, hE⟩ ?_
     refine h_listed (listed' := #[T',T',T',T',T',T',T',T',T',T',T',F',F',T',F']) (by kernel_rfl) ?_
     refine h_t 11 rfl rfl (by kernel_rfl) (fun _ _ _ h => h) ⟨hK, hE⟩ rfl (fun W hW => r_indexAddr_sl rfl Tryz.underlying22 Tryz.sizeOf46 rfl hg.is rfl hch.1 hch.2.1) ?_
     refine h_listed (listed' := #[T',T',T',T',T',T',T',T',T',T',T',T',F',T',F']) (by kernel_rfl) ?_
     refine h_t 12 rfl rfl (by kernel_rfl) (fun _ _ _ h => h) ⟨hK, hE⟩ rfl (fun W hW => r_load_agg (vs := nodeCells t Bk dk Bl dl) rfl Tryz.isAgg46 Tryz.sizeOf46 rfl (fun j v hj => (Ext0.cells hW.2) _ _ (hcell2 j v hj))) ?_
     refine h_listed (listed' := #[T',T',T',T',T',T',T',T',T',T',T',T',T',T',F']) (by kernel_rfl) ?_
     refine h_new_do 14 rfl rfl (by kernel_rfl) rfl (r_store 0 rfl Tryz.sizeOf46 rfl hL hE rfl rfl rfl rfl (fun h => absurd h (Nat.not_lt.2 hb9))) ?_
     rintro w ⟨hL, hE, hz, hk⟩; replace hL : Has w [.blk b9 (.cells (nodeCells t Bk dk Bl dl).toArray 46 (0, 0)), .blk b6 (.cells (nodeCells s Ak ck Al cl).toArray 46 (0, 0)), .blk b3 (.cells (factCells f Aw cw).toArray 43 (0, 0))] := hL
     have hK := hL.sub (.cons _ (.cons_cons _ (.cons_cons _ .slnil)))
     refine ⟨⟨hK, hE⟩, ?_⟩
     refine h_listed (listed' := #[T',T',T',T',T',T',T',T',T',T',T',T',T',T',T']) (by kernel_rfl) ?_
     refine h_done (by kernel_rfl) ?_
     refine ag' ?_
     exact ⟨b9, rfl, (((hL.front 2 rfl).front 2 rfl).front 2 rfl), hE⟩
   rintro e w hI
   obtain ⟨b9, h9s, hL, hE⟩ := hI
   refine c_know (t := 9) (by exact h9s) ?_
   refine c_seq ?_
   refine c_merge [66, 67, 68, 69, 70, 71, 72, 73] (fun e w => e 73 = .bool (decide (s.kind = 1) || decide (t.kind = 1)) ∧ Has w [.blk b9 (.cells (nodeCells t Bk dk Bl dl).toArray 46 (0, 0)), .blk b6 (.cells (nodeCells s Ak ck Al cl).toArray 46 (0, 0)), .blk b3 (.cells (factCells f Aw cw).toArray 43 (0, 0))] ∧ Ext0 w0 w) ?_ ?_
   ·skip
    refine c_ops ?_
    refine l_val rfl rfl rfl (r_fieldAddr (n := 0) rfl Tryz.underlying46 rfl Tryz.sizeOf3 rfl) ?_
    refine l_val rfl rfl rfl (r_load_blk rfl Tryz.isAgg3 rfl (hL.get 1 rfl) rfl) ?_
    refine l_val rfl rfl rfl (r_eql rfl rfl rfl) ?_
    refine mv' rfl rfl rfl rfl ?_
    refine l_case 69 rfl (fun hb => ?_) (fun hb => ?_)
    ·have hr69 := hb
     replace hb := of_decide_eq_true hb
     refine l_not rfl rfl rfl ?_
     refine l_not rfl rfl rfl ?_
     refine l_not rfl rfl rfl ?_
     refine l_val rfl rfl rfl (r_pick rfl rfl) ?_
     refine l_nil ?_
     refine ag' ?_
     exact ⟨congrArg Value.bool (by simp only [oddR, hr69, Bool.true_and, Bool.and_true, Bool.false_and, Bool.and_false, Bool.true_or, Bool.or_true, Bool.false_or, Bool.or_false, Bool.not_true, Bool.not_false, cond_true, cond_false]), hL, hE⟩
    ·have hr69 := hb
     replace hb := of_decide_eq_false hb
     refine l_val rfl rfl rfl (r_fieldAddr (n := 0) rfl Tryz.underlying46 rfl Tryz.sizeOf3 rfl) ?_
     refine l_val rfl rfl rfl (r_load_blk rfl Tryz.isAgg3 rfl (hL.get 0 rfl) rfl) ?_
     refine l_val rfl rfl rfl (r_eql rfl rfl rfl) ?_
     refine l_val rfl rfl rfl (r_pick rfl rfl) ?_
     refine l_nil ?_
     refine ag' ?_
     exact ⟨congrArg Value.bool (by simp only [oddR, hr69, Bool.true_and, Bool.and_true, Bool.false_and, Bool.and_false, Bool.true_or, Bool.or_true, Bool.false_or, Bool.or_false, Bool.not_true, Bool.not_false, cond_true, cond_false]), hL, hE⟩
   rintro e w hI
   obtain ⟨h73, hL, hE⟩ := hI
   refine c_know (t := 73) (by exact h73) ?_
   refine c_cond rfl (fun hb => ?_) (fun hb => ?_)
   ·have hr73 := hb
    have hby := hby3 (by simpa using hb)
    refine c_seq ?_
    refine c_ops ?_
    refine as' rfl rfl rfl rfl ?_
    refine as' rfl rfl rfl rfl ?_
    refine l_nil ?_
    refine c_ret ?_
    rw [hby]; exact ⟨_, rfl, nil_row _ _ _ _, hE⟩
   ·have hr73 := hb
    have h11 : ¬ (s.kind = 1 ∨ t.kind = 1) := by simpa using hb
    have hby := hby4 h11
    have hodd := oddR_eq his hit
    refine c_skip ?_
    refine c_seq ?_
    refine c_merge [74, 75, 76, 77, 78, 79, 80, 81, 82, 83, 84, 85, 86, 87, 88, 89, 90, 91, 92, 93, 94, 95, 96, 97, 98, 99, 100, 101, 102] (fun e w => e 102 = .bool (oddR s t) ∧ Has w [.blk b9 (.cells (nodeCells t Bk dk Bl dl).toArray 46 (0, 0)), .blk b6 (.cells (nodeCells s Ak ck Al cl).toArray 46 (0, 0)), .blk b3 (.cells (factCells f Aw cw).toArray 43 (0, 0))] ∧ Ext0 w0 w) ?_ ?_
    ·skip
     refine c_ops ?_
     refine l_val rfl rfl rfl (r_fieldAddr (n := 0) rfl Tryz.underlying46 rfl Tryz.sizeOf3 rfl) ?_
     refine l_val rfl rfl rfl (r_load_blk rfl Tryz.isAgg3 rfl (hL.get 1 rfl) rfl) ?_
     refine l_val rfl rfl rfl (r_fieldAddr (n := 0) rfl Tryz.underlying46 rfl Tryz.sizeOf3 rfl) ?_
     refine l_val rfl rfl rfl (r_load_blk rfl Tryz.isAgg3 rfl (hL.get 0 rfl) rfl) ?_
     refine l_val rfl rfl rfl (r_neq rfl rfl rfl) ?_
     refine mv' rfl rfl rfl rfl ?_
     refine l_case 79 rfl (fun hb => ?_) (fun hb => ?_)
     ·have hr79 := hb
      replace hb := of_decide_eq_false (by simpa using hb)
      refine l_not rfl rfl rfl ?_
      refine l_not rfl rfl rfl ?_
      refine l_not rfl rfl rfl ?_
      refine l_not rfl rfl rfl ?_
      refine l_not rfl rfl rfl ?_
      refine l_not rfl rfl rfl ?_
      refine l_not rfl rfl rfl ?_
      refine l_not rfl rfl rfl ?_
      refine l_not rfl rfl rfl ?_
      refine l_not rfl rfl rfl ?_
      refine l_val rfl rfl rfl (r_pick rfl rfl) ?_
      refine mv' rfl rfl rfl rfl ?_
      refine l_not rfl rfl rfl ?_
      refine l_not rfl rfl rfl ?_
      refine l_not rfl rfl rfl ?_
      refine l_not rfl rfl rfl ?_
      refine l_not rfl rfl rfl ?_
      refine l_not rfl rfl rfl ?_
      refine l_not rfl rfl rfl ?_
      refine l_not rfl rfl rfl ?_
      refine l_not rfl rfl rfl ?_
      refine l_not rfl rfl rfl ?_
      refine l_val rfl rfl rfl (r_pick rfl rfl) ?_
      refine l_nil ?_
      refine ag' ?_
      exact ⟨congrArg Value.bool (by simp only [oddR, hr79, Bool.true_and, Bool.and_true, Bool.false_and, Bool.and_false, Bool.true_or, Bool.or_true, Bool.false_or, Bool.or_false, Bool.not_true, Bool.not_false, cond_true, cond_false]), hL, hE⟩
     ·have hr79 := hb
      replace hb := of_decide_eq_true (by simpa using hb)
      refine l_val rfl rfl rfl (r_fieldAddr (n := 0) rfl Tryz.underlying46 rfl Tryz.sizeOf3 rfl) ?_
      refine l_val rfl rfl rfl (r_load_blk rfl Tryz.isAgg3 rfl (hL.get 1 rfl) rfl) ?_
      refine l_val rfl rfl rfl (r_eql rfl rfl rfl) ?_
      refine mv' rfl rfl rfl rfl ?_
      refine l_case 83 rfl (fun hb => ?_) (fun hb => ?_)
      ·have hr83 := hb
       replace hb := of_decide_eq_true hb
       refine l_val rfl rfl rfl (r_fieldAddr (n := 0) rfl Tryz.underlying46 rfl Tryz.sizeOf9 rfl) ?_
       refine l_val rfl rfl rfl (r_load_blk rfl Tryz.isAgg9 rfl (hL.get 1 rfl) rfl) ?_
       refine l_val rfl rfl rfl (r_fieldAddr (n := 0) rfl Tryz.underlying46 rfl Tryz.sizeOf9 rfl) ?_
       refine l_val rfl rfl rfl (r_load_blk rfl Tryz.isAgg9 rfl (hL.get 0 rfl) rfl) ?_
       refine l_val rfl rfl rfl (r_sneq rfl rfl rfl) ?_
       refine l_val rfl rfl rfl (r_pick rfl rfl) ?_
       refine l_val rfl rfl rfl (r_pick rfl rfl) ?_
       refine mv' rfl rfl rfl rfl ?_
       refine l_case 91 rfl (fun hb => ?_) (fun hb => ?_)
       ·have hr91 := hb
        replace hb := of_decide_eq_false (by simpa using hb)
        refine l_not rfl rfl rfl ?_
        refine l_not rfl rfl rfl ?_
        refine l_not rfl rfl rfl ?_
        refine l_not rfl rfl rfl ?_
        refine l_not rfl rfl rfl ?_
        refine l_not rfl rfl rfl ?_
        refine l_not rfl rfl rfl ?_
        refine l_not rfl rfl rfl ?_
        refine l_not rfl rfl rfl ?_
        refine l_not rfl rfl rfl ?_
        refine l_val rfl rfl rfl (r_pick rfl rfl) ?_
        refine l_nil ?_
        refine ag' ?_
        exact ⟨congrArg Value.bool (by simp only [oddR, hr79, hr83, hr91, Bool.true_and, Bool.and_true, Bool.false_and, Bool.and_false, Bool.true_or, Bool.or_true, Bool.false_or, Bool.or_false, Bool.not_true, Bool.not_false, cond_true, cond_false]), hL, hE⟩
       ·have hr91 := hb
        replace hb := of_decide_eq_true (by simpa using hb)
        refine l_val rfl rfl rfl (r_fieldAddr (n := 0) rfl Tryz.underlying46 rfl Tryz.sizeOf3 rfl) ?_
        refine l_val rfl rfl rfl (r_load_blk rfl Tryz.isAgg3 rfl (hL.get 1 rfl) rfl) ?_
        refine l_val rfl rfl rfl (r_eql rfl rfl rfl) ?_
        refine mv' rfl rfl rfl rfl ?_
        refine l_case 95 rfl (fun hb => ?_) (fun hb => ?_)
        ·have hr95 := hb
         replace hb := of_decide_eq_true hb
         refine l_val rfl rfl rfl (r_fieldAddr (n := 0) rfl Tryz.underlying46 rfl Tryz.sizeOf3 rfl) ?_
         refine l_val rfl rfl rfl (r_load_blk rfl Tryz.isAgg3 rfl (hL.get 1 rfl) rfl) ?_
         refine l_val rfl rfl rfl (r_fieldAddr (n := 0) rfl Tryz.underlying46 rfl Tryz.sizeOf3 rfl) ?_
         refine l_val rfl rfl rfl (r_load_blk rfl Tryz.isAgg3 rfl (hL.get 0 rfl) rfl) ?_
         refine l_val rfl rfl rfl (r_neq rfl rfl rfl) ?_
         refine l_val rfl rfl rfl (r_pick rfl rfl) ?_
         refine l_val rfl rfl rfl (r_pick rfl rfl) ?_
         refine l_nil ?_
         refine ag' ?_
         exact ⟨congrArg Value.bool (by simp only [oddR, hr79, hr83, hr91, hr95, Bool.true_and, Bool.and_true, Bool.false_and, Bool.and_false, Bool.true_or, Bool.or_true, Bool.false_or, Bool.or_false, Bool.not_true, Bool.not_false, cond_true, cond_false]), hL, hE⟩
        ·have hr95 := hb
         replace hb := of_decide_eq_false hb
         refine l_not rfl rfl rfl ?_
         refine l_not rfl rfl rfl ?_
         refine l_not rfl rfl rfl ?_
         refine l_not rfl rfl rfl ?_
         refine l_not rfl rfl rfl ?_
         refine l_val rfl rfl rfl (r_pick rfl rfl) ?_
         refine l_val rfl rfl rfl (r_pick rfl rfl) ?_
         refine l_nil ?_
         refine ag' ?_
         exact ⟨congrArg Value.bool (by simp only [oddR, hr79, hr83, hr91, hr95, Bool.true_and, Bool.and_true, Bool.false_and, Bool.and_false, Bool.true_or, Bool.or_true, Bool.false_or, Bool.or_false, Bool.not_true, Bool.not_false, cond_true, cond_false]), hL, hE⟩
      ·have hr83 := hb
       replace hb := of_decide_eq_false hb
       refine l_not rfl rfl rfl ?_
       refine l_not rfl rfl rfl ?_
       refine l_not rfl rfl rfl ?_
       refine l_not rfl rfl rfl ?_
       refine l_not rfl rfl rfl ?_
       refine l_val rfl rfl rfl (r_pick rfl rfl) ?_
       refine l_val rfl rfl rfl (r_pick rfl rfl) ?_
       refine mv' rfl rfl rfl rfl ?_
       refine l_val rfl rfl rfl (r_fieldAddr (n := 0) rfl Tryz.underlying46 rfl Tryz.sizeOf3 rfl) ?_
       refine l_val rfl rfl rfl (r_load_blk rfl Tryz.isAgg3 rfl (hL.get 1 rfl) rfl) ?_
       refine l_val rfl rfl rfl (r_eql rfl rfl rfl) ?_
       refine mv' rfl rfl rfl rfl ?_
       refine l_case 95 rfl (fun hb => ?_) (fun hb => ?_)
       ·have hr95 := hb
        replace hb := of_decide_eq_true hb
        refine l_val rfl rfl rfl (r_fieldAddr (n := 0) rfl Tryz.underlying46 rfl Tryz.sizeOf3 rfl) ?_
        refine l_val rfl rfl rfl (r_load_blk rfl Tryz.isAgg3 rfl (hL.get 1 rfl) rfl) ?_
        refine l_val rfl rfl rfl (r_fieldAddr (n := 0) rfl Tryz.underlying46 rfl Tryz.sizeOf3 rfl) ?_
        refine l_val rfl rfl rfl (r_load_blk rfl Tryz.isAgg3 rfl (hL.get 0 rfl) rfl) ?_
        refine l_val rfl rfl rfl (r_neq rfl rfl rfl) ?_
        refine l_val rfl rfl rfl (r_pick rfl rfl) ?_
        refine l_val rfl rfl rfl (r_pick rfl rfl) ?_
        refine l_nil ?_
        refine ag' ?_
        exact ⟨congrArg Value.bool (by simp only [oddR, hr79, hr83, hr95, Bool.true_and, Bool.and_true, Bool.false_and, Bool.and_false, Bool.true_or, Bool.or_true, Bool.false_or, Bool.or_false, Bool.not_true, Bool.not_false, cond_true, cond_false]), hL, hE⟩
       ·have hr95 := hb
        replace hb := of_decide_eq_false hb
        refine l_not rfl rfl rfl ?_
        refine l_not rfl rfl rfl ?_
        refine l_not rfl rfl rfl ?_
        refine l_not rfl rfl rfl ?_
        refine l_not rfl rfl rfl ?_
        refine l_val rfl rfl rfl (r_pick rfl rfl) ?_
        refine l_val rfl rfl rfl (r_pick rfl rfl) ?_
        refine l_nil ?_
        refine ag' ?_
        exact ⟨congrArg Value.bool (by simp only [oddR, hr79, hr83, hr95, Bool.true_and, Bool.and_true, Bool.false_and, Bool.and_false, Bool.true_or, Bool.or_true, Bool.false_or, Bool.or_false, Bool.not_true, Bool.not_false, cond_true, cond_false]), hL, hE⟩
    rintro e w hI
    obtain ⟨h102, hL, hE⟩ := hI
    refine c_know (t := 102) (by exact h102) ?_
    refine c_cond rfl (fun hb => ?_) (fun hb => ?_)
    ·have hr102 := hb
     rw [show plainR s t = ([], false) by unfold plainR; rw [if_pos (by rw [← hodd]; exact hb)]] at hby
     refine c_seq ?_
     refine c_ops ?_
     refine as' rfl rfl rfl rfl ?_
     refine as' rfl rfl rfl rfl ?_
     refine l_nil ?_
     refine c_ret ?_
     rw [hby]; exact ⟨_, rfl, nil_row _ _ _ _, hE⟩
    ·have hr102 := hb
     have hst : s.kind = t.kind := by
      have h := hb
      unfold oddR at h
      rw [Bool.or_eq_false_iff, Bool.or_eq_false_iff] at h
      simpa using h.1.1
     have hp : plainR s t = if s.kind = 9 then ([(iat s.l 0, iat t.l 0)], true) else match plainOn s (t.keys.zip t.l) with
      | none => ([], false)
      | some on => (on, true) := by unfold plainR; rw [if_neg (by rw [← hodd, hb]; decide)]; rfl
     refine c_skip ?_
     refine c_seq ?_
     refine c_seq ?_
     refine c_ops ?_
     refine l_val rfl rfl rfl (r_fieldAddr (n := 0) rfl Tryz.underlying46 rfl Tryz.sizeOf3 rfl) ?_
     refine l_val rfl rfl rfl (r_load_blk rfl Tryz.isAgg3 rfl (hL.get 1 rfl) rfl) ?_
     refine l_val rfl rfl rfl (r_eql rfl rfl rfl) ?_
     refine l_nil ?_
     refine c_cond rfl (fun hb => ?_) (fun hb => ?_)
     ·have hr105 := hb
      replace hb := of_decide_eq_true hb
      rw [hp, if_pos hb] at hby
      have hs1 := hside.var hb
      have ht1 := htside.var (hst ▸ hb)
      refine c_seq ?_
      refine c_draw mixed (hL) hE ?_
      replace hL := hL.drew
      replace hE := hE.drew
      have hK := hL
      refine h_t 0 rfl rfl (by kernel_rfl) (fun _ _ _ h => h) ⟨hK, hE⟩ rfl (fun W hW => r_fieldAddr (n := 0) rfl Tryz.underlying46 rfl Tryz.sizeOf26 rfl) ?_
      refine h_listed (listed' := #[T',F',F',F',F',F',F',F',F',F',F',F']) (by kernel_rfl) ?_
      refine h_t 1 rfl rfl (by kernel_rfl) (fun _ _ _ h => h) ⟨hK, hE⟩ rfl (fun W hW => r_load_blk rfl Tryz.isAgg26 rfl (hW.1.get 1 rfl) rfl) ?_
      refine h_listed (listed' := #[T',T',F',F',F',F',F',F',F',F',F',F']) (by kernel_rfl) ?_
      refine h_t 2 rfl rfl (by kernel_rfl) (fun _ _ _ h => h) ⟨hK, hE⟩ rfl (fun W hW => r_indexAddr_sl rfl Tryz.underlying26 Tryz.sizeOf3 rfl hsl.is rfl (by omega) (by omega)) ?_
      refine h_listed (listed' := #[T',T',T',F',F',F',F',F',F',F',F',F']) (by kernel_rfl) ?_
      refine h_t 3 rfl rfl (by kernel_rfl) (fun _ _ _ h => h) ⟨hK, hE⟩ rfl (fun W hW => r_load (v := .int .i64 (iat s.l 0)) rfl Tryz.isAgg3 rfl ((hsl.keep RInt.kept (Ext0.cells hW.2)).int 0 (by omega) (by omega))) ?_
      refine h_listed (listed' := #[T',T',T',T',F',F',F',F',F',F',F',F']) (by kernel_rfl) ?_
      refine h_t 4 rfl rfl (by kernel_rfl) (fun _ _ _ h => h) ⟨hK, hE⟩ rfl (fun W hW => r_fieldAddr (n := 0) rfl Tryz.underlying46 rfl Tryz.sizeOf26 rfl) ?_
      refine h_listed (listed' := #[T',T',T',T',T',F',F',F',F',F',F',F']) (by kernel_rfl) ?_
      refine h_t 5 rfl rfl (by kernel_rfl) (fun _ _ _ h => h) ⟨hK, hE⟩ rfl (fun W hW => r_load_blk rfl Tryz.isAgg26 rfl (hW.1.get 0 rfl) rfl) ?_
      refine h_listed (listed' := #[T',T',T',T',T',T',F',F',F',F',F',F']) (by kernel_rfl) ?_
      refine h_t 6 rfl rfl (by kernel_rfl) (fun _ _ _ h => h) ⟨hK, hE⟩ rfl (fun W hW => r_indexAddr_sl rfl Tryz.underlying26 Tryz.sizeOf3 rfl htl.is rfl (by omega) (by omega)) ?_
      refine h_listed (listed' := #[T',T',T',T',T',T',T',F',F',F',F',F']) (by kernel_rfl) ?_
      refine h_t 7 rfl rfl (by kernel_rfl) (fun _ _ _ h => h) ⟨hK, hE⟩ rfl (fun W hW => r_load (v := .int .i64 (iat t.l 0)) rfl Tryz.isAgg3 rfl ((htl.keep RInt.kept (Ext0.cells hW.2)).int 0 (by omega) (by omega))) ?_
      refine h_listed (listed' := #[T',T',T',T',T',T',T',T',F',F',F',F']) (by kernel_rfl) ?_
      refine h_t 8 rfl rfl (by kernel_rfl) (fun _ _ _ h => h) ⟨hK, hE⟩ rfl (fun W hW => r_build rfl rfl (built_pr _ _)) ?_
      refine h_listed (listed' := #[T',T',T',T',T',T',T',T',T',F',F',F']) (by kernel_rfl) ?_
      refine h_new 9 rfl rfl (by kernel_rfl) rfl (n_slice (cells := #[.int .i64 (iat s.l 0), .int .i64 (iat t.l 0)]) rfl Tryz.underlying23 Tryz.sizeOf32 Tryz.zeroValue32 rfl rfl (fill_pair _ _) hL hE) ?_
      rintro _ w ⟨s115, rfl, hs115, hL, hE, hX⟩
      first | replace hEm := Ext.trans hEm hX | skip
      have hK := hL.sub (.cons _ (.cons_cons _ (.cons_cons _ (.cons_cons _ .slnil))))
      refine ⟨⟨hK, hE⟩, ?_⟩
      refine h_listed (listed' := #[T',T',T',T',T',T',T',T',T',T',F',F']) (by kernel_rfl) ?_
      refine h_t 10 rfl rfl (by kernel_rfl) (fun _ _ _ h => h) ⟨hK, hE⟩ rfl (fun W hW => r_assign rfl) ?_
      refine h_listed (listed' := #[T',T',T',T',T',T',T',T',T',T',T',F']) (by kernel_rfl) ?_
      refine h_t 11 rfl rfl (by kernel_rfl) (fun _ _ _ h => h) ⟨hK, hE⟩ rfl (fun W hW => r_assign rfl) ?_
      refine h_listed (listed' := #[T',T',T',T',T',T',T',T',T',T',T',T']) (by kernel_rfl) ?_
      refine h_done (by kernel_rfl) ?_
      refine c_ret ?_
      rw [hby]; exact ⟨_, rfl, (Has.asRow (n := 1) (sz := 2) hL hs115 rfl (by decide)).row 0 rfl, hE⟩
     ·have hr105 := hb
      replace hb := of_decide_eq_false hb
      rw [if_neg hb] at hp
      replace hL := hL.nilRow w0.heap.size 32 2
      refine c_skip ?_
      refine c_seq ?_
      refine c_seq ?_
      refine c_ops ?_
      refine as' rfl rfl rfl rfl ?_
      refine l_nil ?_
      refine c_block ?_
      refine c_loop0 (fun m1 e w => (e 0 = .slice Ag g.length cg ∧ e 3 = .pointer (some ⟨b3, 0, none⟩) ∧ e 6 = .pointer (some ⟨b6, 0, none⟩) ∧ e 9 = .pointer (some ⟨b9, 0, none⟩)) ∧ ∃ (k : Nat) (A5 : Option Addr) (c5 : Nat) (on : FP), k ≤ t.keys.length ∧ m1 = t.keys.length - k ∧ e 10 = .int .i64 (k : Nat) ∧ e 7 = .slice A5 on.length c5 ∧ on.length = k ∧ plainOn s (t.keys.zip t.l) = (plainOn s ((t.keys.zip t.l).drop k)).map (on ++ ·) ∧ Has w [.row w0.heap.size 32 2 (.slice A5 on.length c5) (on).length ((on).map cells2).flatten, .blk b9 (.cells (nodeCells t Bk dk Bl dl).toArray 46 (0, 0)), .blk b6 (.cells (nodeCells s Ak ck Al cl).toArray 46 (0, 0)), .blk b3 (.cells (factCells f Aw cw).toArray 43 (0, 0))] ∧ Ext0 w0 w) (t.keys.length) ?_ ?_
      ·exact ⟨⟨rfl, rfl, rfl, rfl⟩, 0, none, 0, [], Nat.zero_le _, rfl, rfl, rfl, rfl, by simp, hL, hE⟩
      rintro m1 e w ⟨⟨hq0, hq3, hq6, hq9⟩, hI⟩
      refine c_know (t := 0) (by exact hq0) ?_
      refine c_know (t := 3) (by exact hq3) ?_
      refine c_know (t := 6) (by exact hq6) ?_
      refine c_know (t := 9) (by exact hq9) ?_
      clear hq0 hq3 hq6 hq9
      obtain ⟨k, A5, c5, on, hkl, hkm, h10s, h7s, honl, hon, hL, hE⟩ := hI
      refine c_know (t := 10) (by exact h10s) ?_
      refine c_know (t := 7) (by exact h7s) ?_
      refine c_seq ?_
      refine c_seq ?_
      refine c_ops ?_
      refine mv' rfl rfl rfl rfl ?_
      refine l_val rfl rfl rfl (r_fieldAddr (n := 0) rfl Tryz.underlying46 rfl Tryz.sizeOf44 rfl) ?_
      refine l_val rfl rfl rfl (r_load_blk rfl Tryz.isAgg44 rfl (hL.get 1 rfl) rfl) ?_
      refine l_val rfl rfl rfl (r_len rfl Tryz.underlying44 rfl) ?_
      refine l_val rfl rfl rfl (r_lss rfl rfl rfl) ?_
      refine l_nil ?_
      refine c_cond rfl (fun hb => ?_) (fun hb => ?_)
      ·have hr120 := hb
       replace hb := of_decide_eq_true hb
       have hklt : k < t.keys.length := by omega
       have hky := hit.keys hklt
       have hs7 : s.kind = 7 := by omega
       have hsr : risesB s.keys = true := by rcases his with ⟨h, _⟩ | ⟨h, _⟩ | ⟨h, hl, hr, _⟩ | ⟨h, _⟩ | ⟨h, _⟩ <;> first | exact hr | omega
       have hsll := hside.rcd hs7
       obtain ⟨key, hkey⟩ : ∃ key, key = kat t.keys k := ⟨_, rfl⟩
       have hstep := plainOn_step s (hkey ▸ kat_some hklt) (iat_nat (show k < t.l.length by omega))
       have hlt := idxS_lt s.keys key
       refine c_skip ?_
       refine c_seq ?_
       refine c_block ?_
       refine c_seq ?_
       refine c_ops ?_
       refine as' rfl rfl rfl rfl ?_
       refine l_nil ?_
       refine c_seq ?_
       refine c_seq ?_
       refine c_ops ?_
       refine as' rfl rfl rfl rfl ?_
       refine l_nil ?_
       refine c_block ?_
       refine c_loop0 (fun m1 e w => (e 0 = .slice Ag g.length cg ∧ e 3 = .pointer (some ⟨b3, 0, none⟩) ∧ e 6 = .pointer (some ⟨b6, 0, none⟩) ∧ e 9 = .pointer (some ⟨b9, 0, none⟩) ∧ e 7 = .slice A5 on.length c5 ∧ e 10 = .int .i64 (k : Nat)) ∧ ∃ (j : Nat) (at_ : Int), j ≤ s.keys.length ∧ m1 = s.keys.length - j ∧ e 12 = .int .i64 (j : Nat) ∧ e 11 = .int .i64 at_ ∧ LastAt s key j at_ ∧ Has w [.row w0.heap.size 32 2 (.slice A5 on.length c5) (on).length ((on).map cells2).flatten, .blk b9 (.cells (nodeCells t Bk dk Bl dl).toArray 46 (0, 0)), .blk b6 (.cells (nodeCells s Ak ck Al cl).toArray 46 (0, 0)), .blk b3 (.cells (factCells f Aw cw).toArray 43 (0, 0))] ∧ Ext0 w0 w) (s.keys.length) ?_ ?_
       ·exact ⟨⟨rfl, rfl, rfl, rfl, rfl, rfl⟩, 0, -1, Nat.zero_le _, rfl, rfl, rfl, LastAt.zero _ _, hL, hE⟩
       rintro m1 e w ⟨⟨hq0, hq3, hq6, hq9, hq7, hq10⟩, hI⟩
       refine c_know (t := 0) (by exact hq0) ?_
       refine c_know (t := 3) (by exact hq3) ?_
       refine c_know (t := 6) (by exact hq6) ?_
       refine c_know (t := 9) (by exact hq9) ?_
       refine c_know (t := 7) (by exact hq7) ?_
       refine c_know (t := 10) (by exact hq10) ?_
       clear hq0 hq3 hq6 hq9 hq7 hq10
       obtain ⟨j, at_, hjl, hjm, h12s, h11s, hat, hL, hE⟩ := hI
       refine c_know (t := 12) (by exact h12s) ?_
       refine c_know (t := 11) (by exact h11s) ?_
       refine c_seq ?_
       refine c_seq ?_
       refine c_ops ?_
       refine mv' rfl rfl rfl rfl ?_
       refine l_val rfl rfl rfl (r_fieldAddr (n := 0) rfl Tryz.underlying46 rfl Tryz.sizeOf44 rfl) ?_
       refine l_val rfl rfl rfl (r_load_blk rfl Tryz.isAgg44 rfl (hL.get 2 rfl) rfl) ?_
       refine l_val rfl rfl rfl (r_len rfl Tryz.underlying44 rfl) ?_
       refine l_val rfl rfl rfl (r_lss rfl rfl rfl) ?_
       refine l_nil ?_
       refine c_cond rfl (fun hb => ?_) (fun hb => ?_)
       ·have hr127 := hb
        replace hb := of_decide_eq_true hb
        have hjlt : j < s.keys.length := by omega
        refine c_skip ?_
        refine c_seq ?_
        refine c_block ?_
        refine c_seq ?_
        refine c_draw mixed (hL) hE ?_
        replace hL := hL.drew
        replace hE := hE.drew
        have hK := hL
        refine h_t 0 rfl rfl (by kernel_rfl) (fun _ _ _ h => h) ⟨hK, hE⟩ rfl (fun W hW => r_fieldAddr (n := 0) rfl Tryz.underlying46 rfl Tryz.sizeOf44 rfl) ?_
        refine h_t 1 rfl rfl (by kernel_rfl) (fun _ _ _ h => h) ⟨hK, hE⟩ rfl (fun W hW => r_load_blk rfl Tryz.isAgg44 rfl (hW.1.get 2 rfl) rfl) ?_
        refine h_t 2 rfl rfl (by kernel_rfl) (fun _ _ _ h => h) ⟨hK, hE⟩ rfl (fun W hW => r_move rfl) ?_
        refine h_t 3 rfl rfl (by kernel_rfl) (fun _ _ _ h => h) ⟨hK, hE⟩ rfl (fun W hW => r_indexAddr_sl rfl Tryz.underlying44 Tryz.sizeOf9 rfl hsk.is rfl (by omega) (by omega)) ?_
        refine h_t 4 rfl rfl (by kernel_rfl) (fun _ _ _ h => h) ⟨hK, hE⟩ rfl (fun W hW => r_load (v := .string (kat s.keys j)) rfl Tryz.isAgg9 rfl ((hsk.keep RStr.kept (Ext0.cells hW.2)).str j (by omega) (by omega))) ?_
        refine h_t 5 rfl rfl (by kernel_rfl) (fun _ _ _ h => h) ⟨hK, hE⟩ rfl (fun W hW => r_fieldAddr (n := 0) rfl Tryz.underlying46 rfl Tryz.sizeOf44 rfl) ?_
        refine h_t 6 rfl rfl (by kernel_rfl) (fun _ _ _ h => h) ⟨hK, hE⟩ rfl (fun W hW => r_load_blk rfl Tryz.isAgg44 rfl (hW.1.get 1 rfl) rfl) ?_
        refine h_t 7 rfl rfl (by kernel_rfl) (fun _ _ _ h => h) ⟨hK, hE⟩ rfl (fun W hW => r_move rfl) ?_
        refine h_t 8 rfl rfl (by kernel_rfl) (fun _ _ _ h => h) ⟨hK, hE⟩ rfl (fun W hW => r_indexAddr_sl rfl Tryz.underlying44 Tryz.sizeOf9 rfl htk.is rfl (by omega) (by omega)) ?_
        refine h_t 9 rfl rfl (by kernel_rfl) (fun _ _ _ h => h) ⟨hK, hE⟩ rfl (fun W hW => r_load (v := .string key) rfl Tryz.isAgg9 rfl (by rw [hkey]; exact (htk.keep RStr.kept (Ext0.cells hW.2)).str k (by omega) (by omega))) ?_
        refine h_t 10 rfl rfl (by kernel_rfl) (fun _ _ _ h => h) ⟨hK, hE⟩ rfl (fun W hW => r_seql rfl rfl rfl) ?_
        refine h_done (by kernel_rfl) ?_
        refine c_cond rfl (fun hb => ?_) (fun hb => ?_)
        ·have hr140 := hb
         replace hb := of_decide_eq_true hb
         have hat3 : LastAt s key (j + 1) (iat s.l j) := LastAt.hit hb
         refine c_ops ?_
         refine l_val rfl rfl rfl (r_fieldAddr (n := 0) rfl Tryz.underlying46 rfl Tryz.sizeOf26 rfl) ?_
         refine l_val rfl rfl rfl (r_load_blk rfl Tryz.isAgg26 rfl (hL.get 2 rfl) rfl) ?_
         refine mv' rfl rfl rfl rfl ?_
         refine l_val rfl rfl rfl (r_indexAddr_sl rfl Tryz.underlying26 Tryz.sizeOf3 rfl hsl.is rfl (by omega) (by omega)) ?_
         refine l_val rfl rfl rfl (r_load (v := .int .i64 (iat s.l j)) rfl Tryz.isAgg3 rfl ((hsl.keep RInt.kept (Ext0.cells hE)).int j (by omega) (by omega))) ?_
         refine as' rfl rfl rfl rfl ?_
         refine l_nil ?_
         refine c_ops ?_
         refine mv' rfl rfl rfl rfl ?_
         refine l_val rfl rfl rfl (r_add rfl rfl rfl) ?_
         refine as' rfl rfl rfl rfl ?_
         refine l_nil ?_
         exact ⟨s.keys.length - (j + 1), by omega, ⟨rfl, rfl, rfl, rfl, rfl, rfl⟩, j + 1, _, by omega, rfl, by show Value.int .i64 (IntKind.i64.wrap ((j : Int) + 1)) = _; rw [wrap_succ hjlt hsk.max], rfl, hat3, hL, hE⟩
        ·have hr140 := hb
         replace hb := of_decide_eq_false hb
         have hat3 := hat.miss hb
         refine c_skip ?_
         refine c_ops ?_
         refine mv' rfl rfl rfl rfl ?_
         refine l_val rfl rfl rfl (r_add rfl rfl rfl) ?_
         refine as' rfl rfl rfl rfl ?_
         refine l_nil ?_
         exact ⟨s.keys.length - (j + 1), by omega, ⟨rfl, rfl, rfl, rfl, rfl, rfl⟩, j + 1, _, by omega, rfl, by show Value.int .i64 (IntKind.i64.wrap ((j : Int) + 1)) = _; rw [wrap_succ hjlt hsk.max], rfl, hat3, hL, hE⟩
       ·have hr127 := hb
        replace hb := of_decide_eq_false hb
        obtain rfl : j = s.keys.length := by omega
        have hat2 := hat.is hsr
        subst hat2
        refine c_exit ?_
        refine c_seq ?_
        refine c_seq ?_
        refine c_ops ?_
        refine mv' rfl rfl rfl rfl ?_
        refine l_val rfl rfl rfl (r_lss rfl rfl rfl) ?_
        refine l_nil ?_
        refine c_cond rfl (fun hb => ?_) (fun hb => ?_)
        ·have hr147 := hb
         replace hb := of_decide_eq_true hb
         have hneg := fieldF_neg hside hsll hb
         rw [hp, hon, hstep, if_pos hneg] at hby
         refine c_seq ?_
         refine c_ops ?_
         refine as' rfl rfl rfl rfl ?_
         refine as' rfl rfl rfl rfl ?_
         refine l_nil ?_
         refine c_ret ?_
         rw [hby]; exact ⟨_, rfl, nil_row _ _ _ _, hE⟩
        ·have hr147 := hb
         replace hb := of_decide_eq_false hb
         have hpos := fieldF_pos hside hsll hb
         rw [hpos.2.1]
         have hon2 : plainOn s (t.keys.zip t.l) = (plainOn s ((t.keys.zip t.l).drop (k + 1))).map ((on ++ [(iat s.l (idxV (idxS s.keys key)), iat t.l k)]) ++ ·) := by
          rw [hon, hstep, if_neg hpos.1, Option.map_map]
          congr 1
          funext l
          simp
         refine c_skip ?_
         refine c_ops ?_
         refine mv' rfl rfl rfl rfl ?_
         refine mv' rfl rfl rfl rfl ?_
         refine l_val rfl rfl rfl (r_fieldAddr (n := 0) rfl Tryz.underlying46 rfl Tryz.sizeOf26 rfl) ?_
         refine l_val rfl rfl rfl (r_load_blk rfl Tryz.isAgg26 rfl (hL.get 1 rfl) rfl) ?_
         refine mv' rfl rfl rfl rfl ?_
         refine l_val rfl rfl rfl (r_indexAddr_sl rfl Tryz.underlying26 Tryz.sizeOf3 rfl htl.is rfl (by omega) (by omega)) ?_
         refine l_val rfl rfl rfl (r_load (v := .int .i64 (iat t.l k)) rfl Tryz.isAgg3 rfl ((htl.keep RInt.kept (Ext0.cells hE)).int k (by omega) (by omega))) ?_
         refine l_val rfl rfl rfl (r_build rfl rfl (built_pr _ _)) ?_
         refine l_new rfl rfl rfl (n_slice (cells := #[.int .i64 (iat s.l (idxV (idxS s.keys key))), .int .i64 (iat t.l k)]) rfl Tryz.underlying23 Tryz.sizeOf32 Tryz.zeroValue32 rfl rfl (fill_pair _ _) hL hE) ?_
         rintro _ w ⟨s156, rfl, hs156, hL, hE, hX⟩
         first | replace hEm := Ext.trans hEm hX | skip
         refine l_new rfl rfl rfl (r_append (ys := cells2 ((iat s.l (idxV (idxS s.keys key))), (iat t.l k))) 1 rfl Tryz.underlying23 info_pr rfl (by decide) rfl rfl hL hE rfl rfl (blk_raw (cs := #[.int .i64 (iat s.l (idxV (idxS s.keys key))), .int .i64 (iat t.l k)]) (hL.get 0 rfl) rfl) (fun u hu => by simp [cells2] at hu; rcases hu with rfl | rfl <;> rfl) (by omega) (by omega) (Nat.le_refl _) hE.size) ?_
         rintro _ w ⟨hL, hE, hk⟩
         obtain ⟨A8, c8, rfl⟩ := ownsRow_slice (hL.row 1 rfl)
         replace hL : Has w [.blk s156 (.cells #[.int .i64 (iat s.l (idxV (idxS s.keys key))), .int .i64 (iat t.l k)] 32 (0, 0)), .row w0.heap.size 32 2 (.slice A8 (on ++ [((iat s.l (idxV (idxS s.keys key))), (iat t.l k))]).length c8) (on ++ [((iat s.l (idxV (idxS s.keys key))), (iat t.l k))]).length ((on ++ [((iat s.l (idxV (idxS s.keys key))), (iat t.l k))]).map cells2).flatten, .blk b9 (.cells (nodeCells t Bk dk Bl dl).toArray 46 (0, 0)), .blk b6 (.cells (nodeCells s Ak ck Al cl).toArray 46 (0, 0)), .blk b3 (.cells (factCells f Aw cw).toArray 43 (0, 0))] := by rw [← pairs_snoc, List.length_append]; exact hL
         first | replace hEm := Ext.trans hEm hX | skip
         refine as' rfl rfl rfl rfl ?_
         refine l_nil ?_
         refine c_ops ?_
         refine mv' rfl rfl rfl rfl ?_
         refine l_val rfl rfl rfl (r_add rfl rfl rfl) ?_
         refine as' rfl rfl rfl rfl ?_
         refine l_nil ?_
         exact ⟨t.keys.length - (k + 1), by omega, ⟨rfl, rfl, rfl, rfl⟩, k + 1, A8, c8, on ++ [(iat s.l (idxV (idxS s.keys key)), iat t.l k)], by omega, rfl, by show Value.int .i64 (IntKind.i64.wrap ((k : Int) + 1)) = _; rw [wrap_succ hklt htk.max], congrArg (fun n => Value.slice A8 n c8) (by rw [List.length_append]; rfl), by simp [honl], hon2, hL.tail, hE⟩
      ·have hr120 := hb
       replace hb := of_decide_eq_false hb
       obtain rfl : k = t.keys.length := by omega
       rw [List.drop_eq_nil_of_le (by simp; omega)] at hon
       rw [hp, hon] at hby
       replace hby : byF g f = (on, true) := by rw [hby]; simp [plainOn]
       refine c_exit ?_
       refine c_seq ?_
       refine c_ops ?_
       refine mv' rfl rfl rfl rfl ?_
       refine as' rfl rfl rfl rfl ?_
       refine as' rfl rfl rfl rfl ?_
       refine l_nil ?_
       refine c_ret ?_
       rw [hby]; exact ⟨_, rfl, by have := hL.row 0 rfl; exact this, hE⟩
end Go.Proofs.YtndophlnapjkhaaGreatDoor.Vc
namespace Go.Proofs.YtndophlnapjkhaaGreatDoor.Vc
open Go Go.RowKit
set_option linter.unusedVariables false
set_option linter.unusedSimpArgs false
theorem fact12_nat {l : List Fact} {p : Fact → Bool} (h : ∀ j : Nat, j < l.length → p (fat l j) = false) : l.any p = false := by
 rw [List.any_eq_false]
 intro x hx
 obtain ⟨j, hj⟩ := List.mem_iff_getElem?.1 hx
 have hl := (List.getElem?_eq_some_iff.1 hj).1
 have := h j hl
 rw [fat_nat hl] at hj
 cases hj
 simp [this]
theorem rfCheck_calls (w0 : World) (Ag : Option Addr) (cg : Nat) (g : List GNode) (hg : Nodes w0 Ag cg g) (hfit : Fits g) (hn : g.length ≤ 1000000) (Af : Option Addr) (cf : Nat) (l : List Fact) (hl : FactsAt w0 Af cf l) :
    Calls Tryz.prog 16 [.slice Ag g.length cg, .slice Af l.length cf].toArray w0 fun en w' => en = .returned (.int .i64 (checkF g l)) ∧ Ext0 w0 w' := by
 have hE : Ext0 w0 w0 := Ext.refl _ _
 refine calls [4] Tryz.func16 rfl rfl rfl rfl ?_
 refine c_seq ?_
 refine c_ops ?_
 refine as' rfl rfl rfl rfl ?_
 refine l_nil ?_
 refine c_seq ?_
 refine c_seq ?_
 refine c_ops ?_
 refine mv' rfl rfl rfl rfl ?_
 refine l_by rfl rfl rfl (r_call rfl rfl Tryz.func30 rfl rfl) (rCheck_calls _ Ag cg g hg hfit hn) ?_
 rintro _ w ⟨rfl, hX⟩
 replace hE := hE.trans hX
 refine ⟨_, rfl, ?_⟩
 refine as' rfl rfl rfl rfl ?_
 refine l_nil ?_
 refine c_seq ?_
 refine c_ops ?_
 refine mv' rfl rfl rfl rfl ?_
 refine l_val rfl rfl rfl (r_neq rfl rfl rfl) ?_
 refine l_nil ?_
 refine c_cond rfl (fun hb => ?_) (fun hb => ?_)
 ·have hr10 := hb
  replace hb := of_decide_eq_false (by simpa using hb)
  have hck : ¬ checkG g = 0 := hb
  refine c_seq ?_
  refine c_ops ?_
  refine mv' rfl rfl rfl rfl ?_
  refine as' rfl rfl rfl rfl ?_
  refine l_nil ?_
  refine c_ret ?_
  exact ⟨ret_int rfl (by unfold checkF; rw [if_neg hck]), hE⟩
 ·have hr10 := hb
  replace hb := of_decide_eq_true (by simpa using hb)
  have hck : checkG g = 0 := hb
  obtain ⟨hok, _⟩ := ok_of hfit hck
  refine c_skip ?_
  refine c_seq ?_
  refine c_seq ?_
  refine c_ops ?_
  refine mv' rfl rfl rfl rfl ?_
  refine l_val rfl rfl rfl (r_len rfl Tryz.underlying25 rfl) ?_
  refine l_val rfl rfl rfl (r_gtr rfl rfl rfl) ?_
  refine l_nil ?_
  refine c_cond rfl (fun hb => ?_) (fun hb => ?_)
  ·have hr14 := hb
   replace hb := of_decide_eq_true hb
   refine c_seq ?_
   refine c_ops ?_
   refine as' rfl rfl rfl rfl ?_
   refine l_nil ?_
   refine c_ret ?_
   exact ⟨ret_int rfl (by unfold checkF; rw [if_pos hck, if_pos hb]), hE⟩
  ·have hr14 := hb
   replace hb := of_decide_eq_false hb
   have h8 : ¬ 8000 < (l.length : Int) := hb
   refine c_skip ?_
   refine c_seq ?_
   refine c_seq ?_
   refine c_ops ?_
   refine as' rfl rfl rfl rfl ?_
   refine l_nil ?_
   refine c_block ?_
   refine c_loop [4, 6, 15, 16, 17, 18, 19, 20, 21, 22, 23, 24, 25, 26, 27, 28, 29] (fun m1 e w => ∃ (k : Nat), k ≤ l.length ∧ m1 = l.length - k ∧ e 6 = .int .i64 (k : Nat) ∧ (∀ j : Nat, j < k → (!formedF g l.length (fat l j)) = false) ∧ Ext0 w0 w) (l.length) ?_ ?_
   ·exact ⟨0, Nat.zero_le _, rfl, rfl, fun j hj => absurd hj (Nat.not_lt_zero _), hE⟩
   intro m1 e w hI
   obtain ⟨k, hkl, hkm, h6s, hall, hE⟩ := hI
   refine c_know (t := 6) (by exact h6s) ?_
   have hL : Has w [] := trivial
   refine c_seq ?_
   refine c_seq ?_
   refine c_ops ?_
   refine mv' rfl rfl rfl rfl ?_
   refine mv' rfl rfl rfl rfl ?_
   refine l_val rfl rfl rfl (r_len rfl Tryz.underlying25 rfl) ?_
   refine l_val rfl rfl rfl (r_lss rfl rfl rfl) ?_
   refine l_nil ?_
   refine c_cond rfl (fun hb => ?_) (fun hb => ?_)
   ·have hr18 := hb
    replace hb := of_decide_eq_true hb
    have hklt : k < l.length := by omega
    refine c_skip ?_
    refine c_seq ?_
    refine c_block ?_
    refine c_seq ?_
    refine c_ops ?_
    refine mv' rfl rfl rfl rfl ?_
    refine mv' rfl rfl rfl rfl ?_
    refine l_val rfl rfl rfl (r_len rfl Tryz.underlying25 rfl) ?_
    refine mv' rfl rfl rfl rfl ?_
    refine mv' rfl rfl rfl rfl ?_
    refine l_val rfl rfl rfl (r_indexAddr_sl rfl Tryz.underlying25 Tryz.sizeOf43 rfl hl.is rfl (by omega) (by omega)) ?_
    obtain ⟨A1, c1, hfc, hfw⟩ := hl.fact k (by omega) (by omega)
    refine l_val rfl rfl rfl (r_load_agg (vs := factCells (fat l k) A1 c1) rfl Tryz.isAgg43 Tryz.sizeOf43 rfl (fun j v hj => Ext0.cells hE _ _ (hfc j v hj))) ?_
    refine l_by rfl rfl rfl (r_call rfl rfl Tryz.func39 rfl rfl) (formed_rcalls _ Ag cg g (hg.keep RNode.kept (Ext0.cells hE)) hok l.length (fat l k) A1 c1 (hfw.keep RInt.kept (Ext0.cells hE))) ?_
    rintro _ w ⟨rfl, hX⟩
    replace hL := hL.ext0 hX
    replace hE := hE.step0 hX
    refine ⟨_, rfl, ?_⟩
    refine l_val rfl rfl rfl (r_not rfl rfl) ?_
    refine l_nil ?_
    refine c_cond rfl (fun hb => ?_) (fun hb => ?_)
    ·have hr29 := hb
     have hno : l.any (fun f => !formedF g l.length f) = true := any_get (fat_nat hklt) hb
     refine c_seq ?_
     refine c_ops ?_
     refine as' rfl rfl rfl rfl ?_
     refine l_nil ?_
     refine c_ret ?_
     exact ⟨ret_int rfl (by unfold checkF; rw [if_pos hck, if_neg h8, if_pos hno]), hE⟩
    ·have hr29 := hb
     refine c_skip ?_
     refine c_ops ?_
     refine mv' rfl rfl rfl rfl ?_
     refine l_val rfl rfl rfl (r_add rfl rfl rfl) ?_
     refine as' rfl rfl rfl rfl ?_
     refine l_nil ?_
     refine ag' ?_
     exact ⟨l.length - (k + 1), by omega, k + 1, by omega, rfl, by show Value.int .i64 (IntKind.i64.wrap ((k : Int) + 1)) = _; rw [wrap_succ hklt hl.max], fun j hj => by rcases Nat.lt_or_eq_of_le (Nat.le_of_lt_succ hj) with h | rfl <;> first | exact hall j h | exact hb, hE⟩
   ·have hr18 := hb
    replace hb := of_decide_eq_false hb
    have hyes : l.any (fun f => !formedF g l.length f) = false := fact12_nat (fun j hj => hall j (by omega))
    refine c_exit ?_
    refine c_seq ?_
    refine c_ops ?_
    refine as' rfl rfl rfl rfl ?_
    refine l_nil ?_
    refine c_ret ?_
    exact ⟨ret_int rfl (by unfold checkF; rw [if_pos hck, if_neg h8, if_neg (by rw [hyes]; decide)]), hE⟩
set_option maxHeartbeats 2000000 in
theorem holds_rcalls (w0 : World) (Ag : Option Addr) (cg : Nat) (g : List GNode) (hg : Nodes w0 Ag cg g) (hok : GraphOk g) (Af : Option Addr) (cf : Nat) (l : List Fact) (hl : FactsAt w0 Af cf l) (k : Int) (hk0 : 0 ≤ k) (hk1 : k < l.length) (hform : formedF g l.length (fat l k) = true) :
    Calls Tryz.prog 38 [.slice Ag g.length cg, .slice Af l.length cf, .int .i64 k].toArray w0 fun en w' => en = .returned (.bool (holdsF g l (fat l k))) ∧ Ext0 w0 w' := by
 have hE : Ext0 w0 w0 := Ext.refl _ _
 have hL : Has w0 [] := trivial
 obtain ⟨hf, hin⟩ := formed_ok hform
 obtain ⟨A1, c1, hfc, hfw⟩ := hl.fact k hk0 hk1
 obtain ⟨on, hon⟩ : ∃ on, on = (byF g (fat l k)).1 := ⟨_, rfl⟩
 obtain ⟨to, hto⟩ : ∃ to, to = onF g (fat l k) := ⟨_, rfl⟩
 have hh : holdsF g l (fat l k) = ((byF g (fat l k)).2 && decide ((on.length : Int) = to.length) && matchF l on to) := by rw [hon, hto]; rfl
 rw [← hto] at hin
 refine calls [6] Tryz.func38 rfl rfl rfl rfl ?_
 refine c_seq ?_
 refine c_ops ?_
 refine as' rfl rfl rfl rfl ?_
 refine l_nil ?_
 refine c_seq ?_
 refine c_ops ?_
 refine mv' rfl rfl rfl rfl ?_
 refine mv' rfl rfl rfl rfl ?_
 refine mv' rfl rfl rfl rfl ?_
 refine l_val rfl rfl rfl (r_indexAddr_sl rfl Tryz.underlying25 Tryz.sizeOf43 rfl hl.is rfl hk0 hk1) ?_
 refine l_val rfl rfl rfl (r_load_agg (vs := factCells (fat l k) A1 c1) rfl Tryz.isAgg43 Tryz.sizeOf43 rfl (fun j v hj => Ext0.cells hE _ _ (hfc j v hj))) ?_
 refine l_by rfl rfl rfl (r_call rfl rfl Tryz.func58 rfl rfl) (next_rcalls _ Ag cg g (hg.keep RNode.kept (Ext0.cells hE)) hok (fat l k) A1 c1 (hfw.keep RInt.kept (Ext0.cells hE)) hf) ?_
 rintro _ w ⟨v, rfl, hrow, hX⟩
 rw [← hon] at hrow
 replace hL := hL.addRow hX hrow
 replace hE := hE.step0 hX
 obtain ⟨A5, c5, rfl⟩ := ownsRow_slice hrow
 obtain ⟨bm, hL⟩ : ∃ bm, Has w (.row bm _ _ _ _ _ :: _) := ⟨_, hL⟩
 replace hL : Has w [.row bm 32 2 (.slice A5 on.length c5) on.length (on.map cells2).flatten] := hL
 refine ⟨_, rfl, ?_⟩
 refine mv' rfl rfl rfl rfl ?_
 refine l_val rfl rfl rfl (r_extract rfl rfl rfl) ?_
 refine l_val rfl rfl rfl (r_extract rfl rfl rfl) ?_
 refine as' rfl rfl rfl rfl ?_
 refine as' rfl rfl rfl rfl ?_
 refine l_nil ?_
 refine c_seq ?_
 refine c_ops ?_
 refine mv' rfl rfl rfl rfl ?_
 refine mv' rfl rfl rfl rfl ?_
 refine mv' rfl rfl rfl rfl ?_
 refine l_val rfl rfl rfl (r_indexAddr_sl rfl Tryz.underlying25 Tryz.sizeOf43 rfl hl.is rfl hk0 hk1) ?_
 refine l_val rfl rfl rfl (r_load_agg (vs := factCells (fat l k) A1 c1) rfl Tryz.isAgg43 Tryz.sizeOf43 rfl (fun j v hj => Ext0.cells hE _ _ (hfc j v hj))) ?_
 refine l_by rfl rfl rfl (r_call rfl rfl Tryz.func46 rfl rfl) (on_rcalls _ Ag cg g (hg.keep RNode.kept (Ext0.cells hE)) (fat l k) A1 c1 (hfw.keep RInt.kept (Ext0.cells hE)) hf.a hf.why) ?_
 rintro _ w ⟨A7, c7, rfl, htoI, hX⟩
 replace hL := hL.ext0 hX
 replace hE := hE.step0 hX
 rw [← hto] at htoI ⊢
 have hto0 := htoI w0 hfw
 refine ⟨_, rfl, ?_⟩
 refine as' rfl rfl rfl rfl ?_
 refine l_nil ?_
 refine c_seq ?_
 refine c_seq ?_
 refine c_ops ?_
 refine mv' rfl rfl rfl rfl ?_
 refine l_val rfl rfl rfl (r_not rfl rfl) ?_
 refine mv' rfl rfl rfl rfl ?_
 refine l_case 29 rfl (fun hb => ?_) (fun hb => ?_)
 ·have hr29 := hb
  have h22 : (byF g (fat l k)).2 = false := by simpa using hb
  have hres : holdsF g l (fat l k) = false := by rw [hh, h22]; rfl
  refine l_not rfl rfl rfl ?_
  refine l_not rfl rfl rfl ?_
  refine l_not rfl rfl rfl ?_
  refine l_not rfl rfl rfl ?_
  refine l_not rfl rfl rfl ?_
  refine l_val rfl rfl rfl (r_pick rfl rfl) ?_
  refine l_nil ?_
  refine c_yes rfl ?_
  refine c_seq ?_
  refine c_ops ?_
  refine as' rfl rfl rfl rfl ?_
  refine l_nil ?_
  refine c_ret ?_
  exact ⟨ret_bool rfl hres.symm, hE⟩
 ·have hr29 := hb
  have h22 : (byF g (fat l k)).2 = true := by simpa using hb
  refine mv' rfl rfl rfl rfl ?_
  refine l_val rfl rfl rfl (r_len rfl Tryz.underlying23 rfl) ?_
  refine mv' rfl rfl rfl rfl ?_
  refine l_val rfl rfl rfl (r_len rfl Tryz.underlying26 rfl) ?_
  refine l_val rfl rfl rfl (r_neq rfl rfl rfl) ?_
  refine l_val rfl rfl rfl (r_pick rfl rfl) ?_
  refine l_nil ?_
  refine c_cond rfl (fun hb => ?_) (fun hb => ?_)
  ·have hr35 := hb
   replace hb := of_decide_eq_false (by simpa using hb)
   have h28 : decide ((on.length : Int) = to.length) = false := decide_eq_false hb
   have hres : holdsF g l (fat l k) = false := by rw [hh, h22, h28]; rfl
   refine c_seq ?_
   refine c_ops ?_
   refine as' rfl rfl rfl rfl ?_
   refine l_nil ?_
   refine c_ret ?_
   exact ⟨ret_bool rfl hres.symm, hE⟩
  ·have hr35 := hb
   replace hb := of_decide_eq_true (by simpa using hb)
   have h28 : decide ((on.length : Int) = to.length) = true := decide_eq_true hb
   rw [h22, h28, Bool.true_and, Bool.true_and] at hh
   have hlen : on.length = to.length := by omega
   refine c_skip ?_
   refine c_seq ?_
   refine c_seq ?_
   refine c_ops ?_
   refine as' rfl rfl rfl rfl ?_
   refine l_nil ?_
   refine c_block ?_
   refine c_loop [6, 10, 11, 36, 37, 38, 39, 40, 41, 42, 43, 44, 45, 46, 47, 48, 49, 50, 51, 52, 53, 54, 55, 56, 57, 58, 59, 60, 61, 62, 63, 64, 65, 66] (fun m1 e w => ∃ (i : Nat), i ≤ on.length ∧ m1 = on.length - i ∧ e 10 = .int .i64 (i : Nat) ∧ matchF l on to = matchF l (on.drop i) (to.drop i) ∧ Has w [.row bm 32 2 (.slice A5 on.length c5) on.length (on.map cells2).flatten] ∧ Ext0 w0 w) (on.length) ?_ ?_
   ·exact ⟨0, Nat.zero_le _, rfl, rfl, rfl, hL, hE⟩
   intro m1 e w hI
   obtain ⟨i, hil, him, h10s, hmf, hL, hE⟩ := hI
   refine c_know (t := 10) (by exact h10s) ?_
   refine c_seq ?_
   refine c_seq ?_
   refine c_ops ?_
   refine mv' rfl rfl rfl rfl ?_
   refine mv' rfl rfl rfl rfl ?_
   refine l_val rfl rfl rfl (r_len rfl Tryz.underlying23 rfl) ?_
   refine l_val rfl rfl rfl (r_lss rfl rfl rfl) ?_
   refine l_nil ?_
   refine c_cond rfl (fun hb => ?_) (fun hb => ?_)
   ·have hr39 := hb
    replace hb := of_decide_eq_true hb
    have hilt : i < on.length := by omega
    have hpk := pat_nat hilt
    have hik := iat_nat (show i < to.length by omega)
    have hkk := hin _ (List.mem_of_getElem? hik)
    have hstep := matchF_step l hpk hik
    obtain ⟨A2, c2, hfc2, _⟩ := hl.fact (iat to i) hkk.1 hkk.2
    refine c_skip ?_
    refine c_seq ?_
    refine c_block ?_
    refine c_seq ?_
    refine c_ops ?_
    refine mv' rfl rfl rfl rfl ?_
    refine mv' rfl rfl rfl rfl ?_
    refine mv' rfl rfl rfl rfl ?_
    refine l_val rfl rfl rfl (r_indexAddr_sl rfl Tryz.underlying26 Tryz.sizeOf3 rfl hto0.is rfl (by omega) (by omega)) ?_
    refine l_val rfl rfl rfl (r_load (v := .int .i64 (iat to i)) rfl Tryz.isAgg3 rfl ((hto0.keep RInt.kept (Ext0.cells hE)).int i (by omega) (by omega))) ?_
    refine l_val rfl rfl rfl (r_indexAddr_sl rfl Tryz.underlying25 Tryz.sizeOf43 rfl hl.is rfl hkk.1 hkk.2) ?_
    refine l_val rfl rfl rfl (r_load_agg (vs := factCells (fat l (iat to i)) A2 c2) rfl Tryz.isAgg43 Tryz.sizeOf43 rfl (fun j v hj => Ext0.cells hE _ _ (hfc2 j v hj))) ?_
    refine l_new rfl rfl rfl (n_alloc rfl Tryz.zeroValue43 hL hE) ?_
    rintro _ w ⟨b11, rfl, hb11, hL, hE, hX⟩
    refine l_new_do rfl rfl (r_store 0 rfl Tryz.sizeOf43 rfl hL hE rfl rfl rfl rfl (fun h => absurd h (Nat.not_lt.2 hb11))) ?_
    rintro w ⟨hL, hE, hz, hk⟩; replace hL : Has w [.blk b11 (.cells (factCells (fat l (iat to i)) A2 c2).toArray 43 (0, 0)), .row bm 32 2 (.slice A5 on.length c5) on.length (on.map cells2).flatten] := hL
    refine l_nil ?_
    refine c_seq ?_
    refine c_draw mixed (hL) hE ?_
    replace hL := hL.drew
    replace hE := hE.drew
    have hK := hL
    refine h_t 0 rfl rfl (by kernel_rfl) (fun _ _ _ h => h) ⟨hK, hE⟩ rfl (fun W hW => r_fieldAddr (n := 0) rfl Tryz.underlying43 rfl Tryz.sizeOf3 rfl) ?_
    refine h_listed (listed' := #[T',F',F',F',F',F',F',F',F',F',F',F',F',F',F',F',F',F']) (by kernel_rfl) ?_
    refine h_t 1 rfl rfl (by kernel_rfl) (fun _ _ _ h => h) ⟨hK, hE⟩ rfl (fun W hW => r_load_blk rfl Tryz.isAgg3 rfl (hW.1.get 0 rfl) rfl) ?_
    refine h_listed (listed' := #[T',T',F',F',F',F',F',F',F',F',F',F',F',F',F',F',F',F']) (by kernel_rfl) ?_
    refine h_t 2 rfl rfl (by kernel_rfl) (fun _ _ _ h => h) ⟨hK, hE⟩ rfl (fun W hW => r_move rfl) ?_
    refine h_listed (listed' := #[T',T',T',F',F',F',F',F',F',F',F',F',F',F',F',F',F',F']) (by kernel_rfl) ?_
    refine h_t 3 rfl rfl (by kernel_rfl) (fun _ _ _ h => h) ⟨hK, hE⟩ rfl (fun W hW => r_move rfl) ?_
    refine h_listed (listed' := #[T',T',T',T',F',F',F',F',F',F',F',F',F',F',F',F',F',F']) (by kernel_rfl) ?_
    refine h_t 4 rfl rfl (by kernel_rfl) (fun _ _ _ h => h) ⟨hK, hE⟩ rfl (fun W hW => r_indexAddr_sl rfl Tryz.underlying23 Tryz.sizeOf32 rfl (Sl.pairs_at (hL.row 1 rfl)).is rfl (by omega) (by omega)) ?_
    refine h_listed (listed' := #[T',T',T',T',T',F',F',F',F',F',F',F',F',F',F',F',F',F']) (by kernel_rfl) ?_
    refine h_t 5 rfl rfl (by kernel_rfl) (fun _ _ _ h => h) ⟨hK, hE⟩ rfl (fun W hW => r_indexAddr_arr rfl Tryz.underlying32 Tryz.sizeOf3 rfl rfl (by decide) (by decide)) ?_
    refine h_listed (listed' := #[T',T',T',T',T',T',F',F',F',F',F',F',F',F',F',F',F',F']) (by kernel_rfl) ?_
    refine h_t 6 rfl rfl (by kernel_rfl) (fun _ _ _ h => h) ⟨hK, hE⟩ rfl (fun W hW => r_load (v := .int .i64 (on.getD (i : Int).toNat (0, 0)).1) rfl Tryz.isAgg3 rfl ((Sl.pairs_at (hW.1.row 1 rfl)).pair i (by omega) (by omega) 0 _ rfl)) ?_
    refine h_listed (listed' := #[T',T',T',T',T',T',T',F',F',F',F',F',F',F',F',F',F',F']) (by kernel_rfl) ?_
    refine h_t 7 rfl rfl (by kernel_rfl) (fun _ _ _ h => h) ⟨hK, hE⟩ rfl (fun W hW => r_neq rfl rfl rfl) ?_
    refine h_listed (listed' := #[T',T',T',T',T',T',T',T',F',F',F',F',F',F',F',F',F',F']) (by kernel_rfl) ?_
    refine h_t 8 rfl rfl (by kernel_rfl) (fun _ _ _ h => h) ⟨hK, hE⟩ rfl (fun W hW => r_move rfl) ?_
    refine h_listed (listed' := #[T',T',T',T',T',T',T',T',T',F',F',F',F',F',F',F',F',F']) (by kernel_rfl) ?_
    refine h_case 57 rfl (fun hb => ?_) (fun hb => ?_)
    ·have hr57 := hb
     replace hb := of_decide_eq_false (by simpa using hb)
     have h52 : decide ((on.getD (i : Int).toNat (0, 0)) = ((fat l (iat to i)).a, (fat l (iat to i)).b)) = false := decide_eq_false fun e => hb (congrArg Prod.fst e).symm
     have hres : holdsF g l (fat l k) = false := by rw [hh, hmf, hstep, h52]; rfl
     refine h_listed (listed' := #[T',T',T',T',T',T',T',T',T',F',F',F',F',F',F',F',F',F']) (by kernel_rfl) ?_
     refine h_n 9 rfl rfl (by kernel_rfl) (fun _ _ _ h => h) ⟨hK, hE⟩ rfl ?_
     refine h_listed (listed' := #[T',T',T',T',T',T',T',T',T',T',F',F',F',F',F',F',F',F']) (by kernel_rfl) ?_
     refine h_n 10 rfl rfl (by kernel_rfl) (fun _ _ _ h => h) ⟨hK, hE⟩ rfl ?_
     refine h_listed (listed' := #[T',T',T',T',T',T',T',T',T',T',T',F',F',F',F',F',F',F']) (by kernel_rfl) ?_
     refine h_n 11 rfl rfl (by kernel_rfl) (fun _ _ _ h => h) ⟨hK, hE⟩ rfl ?_
     refine h_listed (listed' := #[T',T',T',T',T',T',T',T',T',T',T',T',F',F',F',F',F',F']) (by kernel_rfl) ?_
     refine h_n 12 rfl rfl (by kernel_rfl) (fun _ _ _ h => h) ⟨hK, hE⟩ rfl ?_
     refine h_listed (listed' := #[T',T',T',T',T',T',T',T',T',T',T',T',T',F',F',F',F',F']) (by kernel_rfl) ?_
     refine h_n 13 rfl rfl (by kernel_rfl) (fun _ _ _ h => h) ⟨hK, hE⟩ rfl ?_
     refine h_listed (listed' := #[T',T',T',T',T',T',T',T',T',T',T',T',T',T',F',F',F',F']) (by kernel_rfl) ?_
     refine h_n 14 rfl rfl (by kernel_rfl) (fun _ _ _ h => h) ⟨hK, hE⟩ rfl ?_
     refine h_listed (listed' := #[T',T',T',T',T',T',T',T',T',T',T',T',T',T',T',F',F',F']) (by kernel_rfl) ?_
     refine h_n 15 rfl rfl (by kernel_rfl) (fun _ _ _ h => h) ⟨hK, hE⟩ rfl ?_
     refine h_listed (listed' := #[T',T',T',T',T',T',T',T',T',T',T',T',T',T',T',T',F',F']) (by kernel_rfl) ?_
     refine h_n 16 rfl rfl (by kernel_rfl) (fun _ _ _ h => h) ⟨hK, hE⟩ rfl ?_
     refine h_listed (listed' := #[T',T',T',T',T',T',T',T',T',T',T',T',T',T',T',T',T',F']) (by kernel_rfl) ?_
     refine h_t 17 rfl rfl (by kernel_rfl) (fun _ _ _ h => h) ⟨hK, hE⟩ rfl (fun W hW => r_pick rfl rfl) ?_
     refine h_listed (listed' := #[T',T',T',T',T',T',T',T',T',T',T',T',T',T',T',T',T',T']) (by kernel_rfl) ?_
     refine h_done (by kernel_rfl) ?_
     refine c_yes rfl ?_
     refine c_seq ?_
     refine c_ops ?_
     refine as' rfl rfl rfl rfl ?_
     refine l_nil ?_
     refine c_ret ?_
     exact ⟨ret_bool rfl hres.symm, hE⟩
    ·have hr57 := hb
     replace hb := of_decide_eq_true (by simpa using hb)
     have hfst := hb
     refine h_listed (listed' := #[T',T',T',T',T',T',T',T',T',F',F',F',F',F',F',F',F',F']) (by kernel_rfl) ?_
     refine h_t 9 rfl rfl (by kernel_rfl) (fun _ _ _ h => h) ⟨hK, hE⟩ rfl (fun W hW => r_fieldAddr (n := 0) rfl Tryz.underlying43 rfl Tryz.sizeOf3 rfl) ?_
     refine h_listed (listed' := #[T',T',T',T',T',T',T',T',T',T',F',F',F',F',F',F',F',F']) (by kernel_rfl) ?_
     refine h_t 10 rfl rfl (by kernel_rfl) (fun _ _ _ h => h) ⟨hK, hE⟩ rfl (fun W hW => r_load_blk rfl Tryz.isAgg3 rfl (hW.1.get 0 rfl) rfl) ?_
     refine h_listed (listed' := #[T',T',T',T',T',T',T',T',T',T',T',F',F',F',F',F',F',F']) (by kernel_rfl) ?_
     refine h_t 11 rfl rfl (by kernel_rfl) (fun _ _ _ h => h) ⟨hK, hE⟩ rfl (fun W hW => r_move rfl) ?_
     refine h_listed (listed' := #[T',T',T',T',T',T',T',T',T',T',T',T',F',F',F',F',F',F']) (by kernel_rfl) ?_
     refine h_t 12 rfl rfl (by kernel_rfl) (fun _ _ _ h => h) ⟨hK, hE⟩ rfl (fun W hW => r_move rfl) ?_
     refine h_listed (listed' := #[T',T',T',T',T',T',T',T',T',T',T',T',T',F',F',F',F',F']) (by kernel_rfl) ?_
     refine h_t 13 rfl rfl (by kernel_rfl) (fun _ _ _ h => h) ⟨hK, hE⟩ rfl (fun W hW => r_indexAddr_sl rfl Tryz.underlying23 Tryz.sizeOf32 rfl (Sl.pairs_at (hL.row 1 rfl)).is rfl (by omega) (by omega)) ?_
     refine h_listed (listed' := #[T',T',T',T',T',T',T',T',T',T',T',T',T',T',F',F',F',F']) (by kernel_rfl) ?_
     refine h_t 14 rfl rfl (by kernel_rfl) (fun _ _ _ h => h) ⟨hK, hE⟩ rfl (fun W hW => r_indexAddr_arr rfl Tryz.underlying32 Tryz.sizeOf3 rfl rfl (by decide) (by decide)) ?_
     refine h_listed (listed' := #[T',T',T',T',T',T',T',T',T',T',T',T',T',T',T',F',F',F']) (by kernel_rfl) ?_
     refine h_t 15 rfl rfl (by kernel_rfl) (fun _ _ _ h => h) ⟨hK, hE⟩ rfl (fun W hW => r_load (v := .int .i64 (on.getD (i : Int).toNat (0, 0)).2) rfl Tryz.isAgg3 rfl ((Sl.pairs_at (hW.1.row 1 rfl)).pair i (by omega) (by omega) 1 _ rfl)) ?_
     refine h_listed (listed' := #[T',T',T',T',T',T',T',T',T',T',T',T',T',T',T',T',F',F']) (by kernel_rfl) ?_
     refine h_t 16 rfl rfl (by kernel_rfl) (fun _ _ _ h => h) ⟨hK, hE⟩ rfl (fun W hW => r_neq rfl rfl rfl) ?_
     refine h_listed (listed' := #[T',T',T',T',T',T',T',T',T',T',T',T',T',T',T',T',T',F']) (by kernel_rfl) ?_
     refine h_t 17 rfl rfl (by kernel_rfl) (fun _ _ _ h => h) ⟨hK, hE⟩ rfl (fun W hW => r_pick rfl rfl) ?_
     refine h_listed (listed' := #[T',T',T',T',T',T',T',T',T',T',T',T',T',T',T',T',T',T']) (by kernel_rfl) ?_
     refine h_done (by kernel_rfl) ?_
     refine c_cond rfl (fun hb => ?_) (fun hb => ?_)
     ·have hr66 := hb
      replace hb := of_decide_eq_false (by simpa using hb)
      have h52 : decide ((on.getD (i : Int).toNat (0, 0)) = ((fat l (iat to i)).a, (fat l (iat to i)).b)) = false := decide_eq_false fun e => hb (congrArg Prod.snd e).symm
      have hres : holdsF g l (fat l k) = false := by rw [hh, hmf, hstep, h52]; rfl
      refine c_seq ?_
      refine c_ops ?_
      refine as' rfl rfl rfl rfl ?_
      refine l_nil ?_
      refine c_ret ?_
      exact ⟨ret_bool rfl hres.symm, hE⟩
     ·have hr66 := hb
      replace hb := of_decide_eq_true (by simpa using hb)
      have h52 : decide ((on.getD (i : Int).toNat (0, 0)) = ((fat l (iat to i)).a, (fat l (iat to i)).b)) = true := decide_eq_true (Prod.ext (Eq.symm hfst) (Eq.symm hb))
      have hmf2 : matchF l on to = matchF l (on.drop (i + 1)) (to.drop (i + 1)) := by rw [hmf, hstep, h52]; rfl
      refine c_skip ?_
      refine c_ops ?_
      refine mv' rfl rfl rfl rfl ?_
      refine l_val rfl rfl rfl (r_add rfl rfl rfl) ?_
      refine as' rfl rfl rfl rfl ?_
      refine l_nil ?_
      refine ag' ?_
      exact ⟨on.length - (i + 1), by omega, i + 1, by omega, rfl, by show Value.int .i64 (IntKind.i64.wrap ((i : Int) + 1)) = _; rw [wrap_succ hilt (Sl.pairs_at (hL.row 1 rfl)).max], hmf2, hL.tail, hE⟩
   ·have hr39 := hb
    replace hb := of_decide_eq_false hb
    have hres : holdsF g l (fat l k) = true := by rw [hh, hmf, List.drop_eq_nil_of_le (by omega)]; rfl
    refine c_exit ?_
    refine c_seq ?_
    refine c_ops ?_
    refine as' rfl rfl rfl rfl ?_
    refine l_nil ?_
    refine c_ret ?_
    exact ⟨ret_bool rfl hres.symm, hE⟩
end Go.Proofs.YtndophlnapjkhaaGreatDoor.Vc
