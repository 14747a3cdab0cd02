/- find of package fact: a fact for a pair, and for those that it goes on to. Conditions: those of each statement. -/
import Derived.Test.YtndophlnapjkhaaDoorGrow
namespace Go.Proofs.YtndophlnapjkhaaDoor.Vc
open Go Go.RowKit
set_option linter.unusedVariables false
set_option linter.unusedSimpArgs false

def MapIs (mp : PM) (l : List Fact) : Prop := ∀ q, getM mp q = (atP q 0 l).map (fun (i : Nat) => (i : Int))
theorem MapIs.nil : MapIs [] [] := fun q => rfl
theorem MapIs.snoc {mp : PM} {l : List Fact} (h : MapIs mp l) {f : Fact} {p : Int × Int} (hp : (f.a, f.b) = p) (hn : atP p 0 l = none) : MapIs (setM mp p (l.length : Int)) (l ++ [f]) := fun q => by
  rw [getM_setM, atP_append, h q]
  split
  · rename_i e
    subst e
    rw [hn]
    simp [atP, hp]
  · rename_i e
    cases ha : atP q 0 l with
    | some i => rfl
    | none =>
      have : ¬ (f.a, f.b) = q := fun e2 => e (hp.symm.trans e2)
      simp [atP, this]
theorem MapIs.congr {mp : PM} {l l' : List Fact} (h : MapIs mp l) (e : prs l' = prs l) : MapIs mp l' := fun q => by rw [h q, atP_congr l' l 0 e]
abbrev fxB (Ag : Option Addr) (n cg : Nat) (lv : Value) (mb : Nat) : Obj := .cells #[.slice Ag n cg, lv, .map (some mb)] 68 (0, 0)
abbrev FX (xb mb B : Nat) (Ag : Option Addr) (n cg : Nat) (lv : Value) (mp : PM) (fv : List FV) : List Res := [.blk xb (fxB Ag n cg lv mb), .blk mb (mapObj enc2 (Value.int .i64) mp), .row B 37 3 lv fv.length (fv.map fcell).flatten]
def FS (xb mb : Nat) (lv : Value) : Nat → Prop := fun k => k = xb ∨ k = mb ∨ lv.ownBlock = some k
theorem FS.res {xb mb B n cg : Nat} {Ag : Option Addr} {lv : Value} {mp : PM} {fv : List FV} {k : Nat} (h : FS xb mb lv k) : ∃ r ∈ FX xb mb B Ag n cg lv mp fv, r.foot = some k := by
  rcases h with rfl | rfl | h
  · exact ⟨_, List.mem_cons_self, rfl⟩
  · exact ⟨_, List.mem_cons_of_mem _ List.mem_cons_self, rfl⟩
  · exact ⟨_, List.mem_cons_of_mem _ (List.mem_cons_of_mem _ List.mem_cons_self), h⟩
/-- What find gives. -/
def FindRes (w0 : World) (xb mb B : Nat) (Ag : Option Addr) (cg : Nat) (g : List GNode) (fv : List FV) (lv : Value) (r : Int × List Fact) (en : Ending) (w' : World) : Prop :=
  en = .returned (.int .i64 r.1) ∧ ∃ (lv' : Value) (mp' : PM) (news : List FV), r.2 = (fv ++ news).map (·.1) ∧ MapIs mp' r.2 ∧ Has w' (FX xb mb B Ag g.length cg lv' mp' (fv ++ news) ++ news.map (fres 3 B)) ∧ Ext (FS xb mb lv) w0 w' ∧ (∀ x ∈ news, ∀ b, x.2.ownBlock = some b → w0.heap.size ≤ b) ∧ (∀ b, lv'.ownBlock = some b → lv.ownBlock = some b ∨ w0.heap.size ≤ b)
/-- find's contract, its calls k deep. -/
def FindC (wB : World) (xb mb : Nat) (Ag : Option Addr) (cg : Nat) (g : List GNode) (k : Nat) : Prop :=
  ∀ (w0 : World) (p : Int × Int) (fv : List FV) (mp : PM) (lv : Value), Ext0 wB w0 → Has w0 (FX xb mb wB.heap.size Ag g.length cg lv mp fv) → GoodL g (fv.map (·.1)) → MapIs mp (fv.map (·.1)) → InG g.length p → mayX g false p = true → g.length * g.length + 1 ≤ k + fv.length →
    Calls Tryd.prog 30 [.pointer (some ⟨xb, 0, none⟩), .agg #[.int .i64 p.1, .int .i64 p.2]].toArray w0 (FindRes w0 xb mb wB.heap.size Ag cg g fv lv (findF g k p (fv.map (·.1))))
theorem findF_some {g : List GNode} {k : Nat} {p : Int × Int} {l : List Fact} {i : Nat} (h : atP p 0 l = some i) : findF g (k + 1) p l = ((i : Int), l) := by
  rw [findF, h]
theorem findF_none {g : List GNode} {k : Nat} {p : Int × Int} {l : List Fact} (h : atP p 0 l = none) : findF g (k + 1) p l = ((l.length : Int), (findsF (findF g k) (onP g p) (l ++ [firstP g p])).2.set l.length (doneP g p (findsF (findF g k) (onP g p) (l ++ [firstP g p])).1)) := by
  rw [findF, h]
theorem built_fact0 (a b : Int) : Tryd.prog.built 37 [(0, .int .i64 a), (1, .int .i64 b)] = some #[.int .i64 a, .int .i64 b, .slice none 0 0] := by kernel_rfl
theorem fill_fact (a b : Int) (v : Value) : Instr.fill (fun i => some (i * 3, 3)) ((List.range (1 * 3)).map ((Value.agg #[.int .i64 0, .int .i64 0, .slice none 0 0]).cells[· % (Value.agg #[.int .i64 0, .int .i64 0, .slice none 0 0]).cells.size]!)).toArray [(0, .agg #[.int .i64 a, .int .i64 b, v])] = some #[.int .i64 a, .int .i64 b, v] := by rfl
theorem take_snoc {α : Type} {l : List α} {n : Nat} {x : α} (h : l[n]? = some x) : l.take (n + 1) = l.take n ++ [x] := by
  rw [List.take_add_one, h]
  rfl
theorem fv_set (fv news : List FV) (a b : FV) : (fv ++ [a] ++ news).set fv.length b = fv ++ b :: news := by
  rw [List.append_assoc, List.set_append_right _ _ (Nat.le_refl _), Nat.sub_self]
  rfl
theorem one_row {w : World} {base e sz n : Nat} {v : Value} {xs : List Value} (h : w.ownsRow base e sz v n xs) : v.oneCell' = true := by
  obtain ⟨A, c, rfl⟩ := ownsRow_slice h
  rfl
theorem all3 {a b : Int} {v : Value} (h : v.oneCell' = true) : ([.int .i64 a, .int .i64 b, v] : List Value).all Value.oneCell' = true := by
  simp only [List.all_cons, List.all_nil, h, Bool.and_true]
  rfl
theorem why_le (g : List GNode) (p : Int × Int) : (firstP g p).why.length ≤ 1 := by
  unfold firstP
  split <;> simp
theorem on_le {g : List GNode} {p : Int × Int} (hok : GraphOk g) (hp : InG g.length p) (hm : mayX g false p = true) : (onP g p).length ≤ 1000000000001 := by
  have hmn := (found_p hok hp hm).many (List.replicate (onP g p).length 0) (by simp)
  obtain ⟨f, hf⟩ : ∃ f, f = doneP g p (List.replicate (onP g p).length 0) := ⟨_, rfl⟩
  have hfl : f.why.length = (firstP g p).why.length + (onP g p).length := by rw [hf]; simp [doneP]
  have hfa : f.a = p.1 := by rw [hf]; rfl
  have hfb : f.b = p.2 := by rw [hf]; rfl
  rw [← hf] at hmn
  unfold manyF at hmn
  rw [hfa, hfb] at hmn
  split at hmn
  · have := hok.fits.lists _ (gat_inn hp.1 hp.2.1)
    injection hmn with hmn
    omega
  · split at hmn
    · cases hmn
    · split at hmn
      · injection hmn with hmn
        omega
      · split at hmn
        · cases hmn
        · rename_i hidx
          split at hmn
          · rename_i h7
            have hch := chosen_in hok (f := f) (by rw [hfb]; omega)
            have hcg := gat_inn hch.1 hch.2.1
            have := hok.fits.lists _ hcg
            have hr := (SideOk.of hok hcg hch.2.2).rcd h7.2
            injection hmn with hmn
            unfold chosenF at hmn
            omega
          · split at hmn
            · injection hmn with hmn
              omega
            · injection hmn with hmn
              omega
theorem fv_lt (fv news : List FV) (a : FV) : fv.length < (fv ++ [a] ++ news).length := by
  rw [List.length_append, List.length_append, List.length_singleton]
  omega
theorem fv_set1 (fv news : List FV) (f d : Fact) (v0 wv : Value) : ((fv ++ [(f, v0)] ++ news).map (·.1)).set fv.length d = (fv ++ (d, wv) :: news).map (·.1) := by
  rw [← fv_set fv news (f, v0) (d, wv), List.map_set]
theorem fx_foot {w : World} {xb mb B n cg ie B' : Nat} {Ag : Option Addr} {lv lv' : Value} {mp mp' : PM} {fv fv' news : List FV} (hn : ∀ x ∈ news, ∀ b, x.2.ownBlock = some b → w.heap.size ≤ b) (hl : ∀ b, lv'.ownBlock = some b → lv.ownBlock = some b ∨ w.heap.size ≤ b) : ∀ r ∈ FX xb mb B Ag n cg lv' mp' fv' ++ news.map (fres ie B'), ∀ b, r.foot = some b → (∃ q ∈ FX xb mb B Ag n cg lv mp fv, q.foot = some b) ∨ w.heap.size ≤ b := by
  intro r hr b hb
  rcases List.mem_append.1 hr with hr | hr
  · rcases List.mem_cons.1 hr with rfl | hr
    · exact .inl ⟨_, List.mem_cons_self, hb⟩
    rcases List.mem_cons.1 hr with rfl | hr
    · exact .inl ⟨_, List.mem_cons_of_mem _ List.mem_cons_self, hb⟩
    rw [List.mem_singleton] at hr
    subst hr
    rcases hl b hb with h | h
    · exact .inl ⟨_, List.mem_cons_of_mem _ (List.mem_cons_of_mem _ List.mem_cons_self), h⟩
    · exact .inr h
  · obtain ⟨x, hx, rfl⟩ := List.mem_map.1 hr
    exact .inr (hn x hx b hb)
theorem find_some (wB : World) (xb mb : Nat) (Ag : Option Addr) (cg : Nat) (g : List GNode) (k : Nat) (w0 : World) (p : Int × Int) (fv : List FV) (mp : PM) (lv : Value) (i : Nat) (ha : atP p 0 (fv.map (·.1)) = some i) (hL : Has w0 (FX xb mb wB.heap.size Ag g.length cg lv mp fv)) (hmap : MapIs mp (fv.map (·.1))) :
    Calls Tryd.prog 30 [.pointer (some ⟨xb, 0, none⟩), .agg #[.int .i64 p.1, .int .i64 p.2]].toArray w0 (FindRes w0 xb mb wB.heap.size Ag cg g fv lv (findF g (k + 1) p (fv.map (·.1)))) := by
  have hE : Ext (FS xb mb lv) w0 w0 := Ext.refl _ _
  have hgm : getM mp p = some (i : Int) := by rw [hmap p, ha]; rfl
  rw [findF_some ha]
  refine calls [4] Tryd.func30 rfl rfl rfl rfl ?_
  refine c_seq ?_
  -- region 0
  refine c_ops ?_
  refine l_new rfl rfl rfl (n_box rfl hL hE) ?_
  rintro _ w ⟨b3, rfl, hb3, hL, hE, hX⟩
  refine l_val rfl rfl rfl (r_assign rfl) ?_
  refine l_nil ?_
  refine c_seq ?_
  refine c_seq ?_
  -- region 1
  refine c_draw mixed (hL) hE ?_
  replace hL := hL.drew
  replace hE := hE.drew
  have hK := hL
  refine h_t 0 rfl rfl (by kernel_rfl) (fun _ _ _ h => h) ⟨hK, hE⟩ rfl (fun W hW => r_move rfl) ?_
  refine h_t 1 rfl rfl (by kernel_rfl) (fun _ _ _ h => h) ⟨hK, hE⟩ rfl (fun W hW => r_nilCheck rfl rfl) ?_
  refine h_t 2 rfl rfl (by kernel_rfl) (fun _ _ _ h => h) ⟨hK, hE⟩ rfl (fun W hW => r_fieldAddr (n := 0) rfl Tryd.underlying68 rfl Tryd.sizeOf66 rfl) ?_
  refine h_t 3 rfl rfl (by kernel_rfl) (fun _ _ _ h => h) ⟨hK, hE⟩ rfl (fun W hW => r_load_blk rfl Tryd.isAgg66 rfl (hW.1.get 1 rfl) rfl) ?_
  refine h_t 4 rfl rfl (by kernel_rfl) (fun _ _ _ h => h) ⟨hK, hE⟩ rfl (fun W hW => r_load_agg (vs := cells2 p) rfl Tryd.isAgg72 Tryd.sizeOf72 rfl (blk_raw (cs := #[.int .i64 p.1, .int .i64 p.2]) (hW.1.get 0 rfl) rfl)) ?_
  refine h_t 5 rfl rfl (by kernel_rfl) (fun _ _ _ h => h) ⟨hK, hE⟩ rfl (fun W hW => r_lookup_ok_some (v := (i : Int)) (k := p) rfl Tryd.underlying66 key_fpair Tryd.zeroValue3 rfl rfl (hW.1.get 2 rfl) hgm) ?_
  refine h_t 6 rfl rfl (by kernel_rfl) (fun _ _ _ h => h) ⟨hK, hE⟩ rfl (fun W hW => r_move rfl) ?_
  refine h_t 7 rfl rfl (by kernel_rfl) (fun _ _ _ h => h) ⟨hK, hE⟩ rfl (fun W hW => r_extract rfl rfl rfl) ?_
  refine h_t 8 rfl rfl (by kernel_rfl) (fun _ _ _ h => h) ⟨hK, hE⟩ rfl (fun W hW => r_extract rfl rfl rfl) ?_
  refine h_t 9 rfl rfl (by kernel_rfl) (fun _ _ _ h => h) ⟨hK, hE⟩ rfl (fun W hW => r_assign rfl) ?_
  refine h_t 10 rfl rfl (by kernel_rfl) (fun _ _ _ h => h) ⟨hK, hE⟩ rfl (fun W hW => r_assign rfl) ?_
  refine h_done (by kernel_rfl) ?_
  refine c_seq ?_
  -- region 2
  refine c_ops ?_
  refine l_val rfl rfl rfl (r_move rfl) ?_
  refine l_nil ?_
  refine c_yes rfl ?_
  refine c_seq ?_
  -- region 3
  refine c_ops ?_
  refine l_val rfl rfl rfl (r_move rfl) ?_
  refine l_val rfl rfl rfl (r_assign rfl) ?_
  refine l_nil ?_
  refine c_ret ?_
  exact ⟨rfl, lv, mp, [], by simp, hmap, by simpa using hL.tail, hE, fun x hx => by simp at hx, fun b hb => .inl hb⟩
set_option maxHeartbeats 16000000 in
theorem find_none (wB : World) (xb mb : Nat) (hxB : wB.heap.size ≤ xb) (hmB : wB.heap.size ≤ mb) (Ag : Option Addr) (cg : Nat) (g : List GNode) (hg : Nodes wB Ag cg g) (hok : GraphOk g) (hn : g.length ≤ 16) (hk0 : KeysLaid wB) (k : Nat) (IH : FindC wB xb mb Ag cg g k)
    (w0 : World) (p : Int × Int) (fv : List FV) (mp : PM) (lv : Value) (hB : Ext0 wB w0) (ha : atP p 0 (fv.map (·.1)) = none) (hL : Has w0 (FX xb mb wB.heap.size Ag g.length cg lv mp fv)) (hgood : GoodL g (fv.map (·.1))) (hmap : MapIs mp (fv.map (·.1))) (hp : InG g.length p) (hm : mayX g false p = true) (hk : g.length * g.length + 1 ≤ k + 1 + fv.length) :
    Calls Tryd.prog 30 [.pointer (some ⟨xb, 0, none⟩), .agg #[.int .i64 p.1, .int .i64 p.2]].toArray w0 (FindRes w0 xb mb wB.heap.size Ag cg g fv lv (findF g (k + 1) p (fv.map (·.1)))) := by
  have hE : Ext (FS xb mb lv) w0 w0 := Ext.refl _ _
  have hgm : getM mp p = none := by rw [hmap p, ha]; rfl
  have hXB : ∀ {W : World}, Ext (FS xb mb lv) w0 W → Ext0 wB W := fun h => hB.step h (fun j hj hs => by
    rcases hs with rfl | rfl | hs
    · omega
    · omega
    · have := (ownsRow_lt (hL.row 2 rfl) hs).2
      omega)
  have hnn : g.length * g.length ≤ 256 := Nat.le_trans (Nat.mul_le_mul hn hn) (by decide)
  have hnp := (atP_none (p := p) (fv.map (·.1)) 0).1 ha
  have hflt : fv.length < g.length * g.length := by simpa using hgood.lt hnp hp
  have hfnd := found_p hok hp hm
  have hg1 : GoodL g (fv.map (·.1) ++ [firstP g p]) := hgood.snoc hnp hp
  have hall := fun (n : Nat) => (all_is (F := findF g k) (N := fv.length + 1) ((onP g p).take n) (fv.map (·.1) ++ [firstP g p]) (fun q hq l' hl' hgl => one_is hok k q l' hgl (hfnd.inn q (List.mem_of_mem_take hq)).1 (hfnd.inn q (List.mem_of_mem_take hq)).2 (by omega)) (by simp) hg1).out
  rw [findF_none ha, List.length_map]
  have hsz : wB.heap.size ≤ w0.heap.size := hB.size
  obtain ⟨Ak, ck, Al0, cl0, hnd, _, _⟩ := hg.node p.1 hp.1 hp.2.1
  obtain ⟨Al, cl, rfl⟩ := ownsRow_slice (hL.row 2 rfl)
  refine calls [4] Tryd.func30 rfl rfl rfl rfl ?_
  refine c_seq ?_
  -- region 0
  refine c_ops ?_
  refine l_new rfl rfl rfl (n_box rfl hL hE) ?_
  rintro _ w ⟨b3, rfl, hb3, hL, hE, hX⟩
  refine l_val rfl rfl rfl (r_assign rfl) ?_
  refine l_nil ?_
  refine c_seq ?_
  refine c_seq ?_
  -- region 1
  refine c_draw mixed (hL) hE ?_
  replace hL := hL.drew
  replace hE := hE.drew
  have hK := hL
  refine h_t 0 rfl rfl (by kernel_rfl) (fun _ _ _ h => h) ⟨hK, hE⟩ rfl (fun W hW => r_move rfl) ?_
  refine h_t 1 rfl rfl (by kernel_rfl) (fun _ _ _ h => h) ⟨hK, hE⟩ rfl (fun W hW => r_nilCheck rfl rfl) ?_
  refine h_t 2 rfl rfl (by kernel_rfl) (fun _ _ _ h => h) ⟨hK, hE⟩ rfl (fun W hW => r_fieldAddr (n := 0) rfl Tryd.underlying68 rfl Tryd.sizeOf66 rfl) ?_
  refine h_t 3 rfl rfl (by kernel_rfl) (fun _ _ _ h => h) ⟨hK, hE⟩ rfl (fun W hW => r_load_blk rfl Tryd.isAgg66 rfl (hW.1.get 1 rfl) rfl) ?_
  refine h_t 4 rfl rfl (by kernel_rfl) (fun _ _ _ h => h) ⟨hK, hE⟩ rfl (fun W hW => r_load_agg (vs := cells2 p) rfl Tryd.isAgg72 Tryd.sizeOf72 rfl (blk_raw (cs := #[.int .i64 p.1, .int .i64 p.2]) (hW.1.get 0 rfl) rfl)) ?_
  refine h_t 5 rfl rfl (by kernel_rfl) (fun _ _ _ h => h) ⟨hK, hE⟩ rfl (fun W hW => r_lookup_ok_none (k := p) rfl Tryd.underlying66 key_fpair Tryd.zeroValue3 rfl rfl (hW.1.get 2 rfl) hgm) ?_
  refine h_t 6 rfl rfl (by kernel_rfl) (fun _ _ _ h => h) ⟨hK, hE⟩ rfl (fun W hW => r_move rfl) ?_
  refine h_t 7 rfl rfl (by kernel_rfl) (fun _ _ _ h => h) ⟨hK, hE⟩ rfl (fun W hW => r_extract rfl rfl rfl) ?_
  refine h_t 8 rfl rfl (by kernel_rfl) (fun _ _ _ h => h) ⟨hK, hE⟩ rfl (fun W hW => r_extract rfl rfl rfl) ?_
  refine h_t 9 rfl rfl (by kernel_rfl) (fun _ _ _ h => h) ⟨hK, hE⟩ rfl (fun W hW => r_assign rfl) ?_
  refine h_t 10 rfl rfl (by kernel_rfl) (fun _ _ _ h => h) ⟨hK, hE⟩ rfl (fun W hW => r_assign rfl) ?_
  refine h_done (by kernel_rfl) ?_
  refine c_seq ?_
  -- region 2
  refine c_ops ?_
  refine l_val rfl rfl rfl (r_move rfl) ?_
  refine l_nil ?_
  refine c_no rfl ?_
  refine c_skip ?_
  refine c_seq ?_
  -- region 4
  refine c_ops ?_
  refine l_val rfl rfl rfl (r_move rfl) ?_
  refine l_val rfl rfl rfl (r_nilCheck rfl rfl) ?_
  refine l_val rfl rfl rfl (r_fieldAddr (n := 1) rfl Tryd.underlying68 rfl Tryd.sizeOf65 rfl) ?_
  refine l_val rfl rfl rfl (r_fieldAddr (n := 0) rfl Tryd.underlying65 rfl Tryd.sizeOf29 rfl) ?_
  refine l_val rfl rfl rfl (r_load_blk rfl Tryd.isAgg29 rfl (hL.get 1 rfl) rfl) ?_
  refine l_val rfl rfl rfl (r_len rfl Tryd.underlying29 rfl) ?_
  refine l_val rfl rfl rfl (r_assign rfl) ?_
  refine l_nil ?_
  refine c_seq ?_
  refine c_seq ?_
  -- region 5
  refine c_ops ?_
  refine l_val rfl rfl rfl (r_move rfl) ?_
  refine l_val rfl rfl rfl (r_gtr rfl rfl rfl) ?_
  refine l_nil ?_
  refine c_cond rfl (fun hb => ?_) (fun hb => ?_)
  · -- True
    have hr31 := hb
    replace hb := of_decide_eq_true hb
    omega
  · -- False
    have hr31 := hb
    replace hb := of_decide_eq_false hb
    refine c_skip ?_
    refine c_seq ?_
    -- region 7
    refine c_ops ?_
    refine l_val rfl rfl rfl (r_fieldAddr (n := 0) rfl Tryd.underlying72 rfl Tryd.sizeOf3 rfl) ?_
    refine l_val rfl rfl rfl (r_load_blk rfl Tryd.isAgg3 rfl (hL.get 0 rfl) rfl) ?_
    refine l_val rfl rfl rfl (r_fieldAddr (n := 0) rfl Tryd.underlying72 rfl Tryd.sizeOf3 rfl) ?_
    refine l_val rfl rfl rfl (r_load_blk rfl Tryd.isAgg3 rfl (hL.get 0 rfl) rfl) ?_
    refine l_val rfl rfl rfl (r_build rfl rfl (built_fact0 _ _)) ?_   -- fact.go:213 slot 37 := (build 37 [(0, (tmp 34)), (1, (tmp 36))])
    refine l_new rfl rfl rfl (n_alloc rfl Tryd.zeroValue37 hL hE) ?_
    rintro _ w ⟨b8, rfl, hb8, hL, hE, hX⟩
    refine l_new_do rfl rfl (r_store 0 rfl Tryd.sizeOf37 rfl hL hE rfl rfl rfl rfl (fun h => absurd h (Nat.not_lt.2 hb8))) ?_
    rintro w ⟨hL, hE, hz, hk⟩
    refine l_nil ?_
    refine c_merge [38, 39, 40, 41, 42, 43, 44, 45, 46, 47, 48, 49, 50, 51, 52, 53, 54, 55, 56, 57, 58, 59, 60] (fun e w => ∃ wv, (∀ b, wv.ownBlock = some b → w0.heap.size ≤ b) ∧ Has w [.row wB.heap.size 3 1 wv (firstP g p).why.length ((firstP g p).why.map (Value.int .i64)), .blk b8 (.cells #[.int .i64 p.1, .int .i64 p.2, wv] 37 (0, 0)), .blk b3 (.cells #[.int .i64 p.1, .int .i64 p.2] 72 (0, 0)), .blk xb (fxB Ag g.length cg (Value.slice Al fv.length cl) mb), .blk mb (mapObj enc2 (Value.int .i64) mp), .row wB.heap.size 37 3 (Value.slice Al fv.length cl) (fv).length ((fv).map fcell).flatten] ∧ Ext (FS xb mb (.slice Al fv.length cl)) w0 w) ?_ ?_
    · -- merged
      refine c_seq ?_
      -- region 8
      refine c_draw mixed (hL) hE ?_
      replace hL := hL.drew
      replace hE := hE.drew
      have hK := hL
      replace hL : Has _ [.blk b8 (.cells #[.int .i64 p.1, .int .i64 p.2, .slice none 0 0] 37 (0, 0)), .blk b3 (.cells #[.int .i64 p.1, .int .i64 p.2] 72 (0, 0)), .blk xb (fxB Ag g.length cg (Value.slice Al fv.length cl) mb), .blk mb (mapObj enc2 (Value.int .i64) mp), .row wB.heap.size 37 3 (Value.slice Al fv.length cl) (fv).length ((fv).map fcell).flatten] := hL
      refine h_t 0 rfl rfl (by kernel_rfl) (fun _ _ _ h => h) ⟨hK, hE⟩ rfl (fun W hW => r_move rfl) ?_
      refine h_t 1 rfl rfl (by kernel_rfl) (fun _ _ _ h => h) ⟨hK, hE⟩ rfl (fun W hW => r_nilCheck rfl rfl) ?_
      refine h_t 2 rfl rfl (by kernel_rfl) (fun _ _ _ h => h) ⟨hK, hE⟩ rfl (fun W hW => r_fieldAddr (n := 1) rfl Tryd.underlying68 rfl Tryd.sizeOf65 rfl) ?_
      refine h_t 3 rfl rfl (by kernel_rfl) (fun _ _ _ h => h) ⟨hK, hE⟩ rfl (fun W hW => r_fieldAddr (n := 0) rfl Tryd.underlying65 rfl Tryd.sizeOf22 rfl) ?_
      refine h_t 4 rfl rfl (by kernel_rfl) (fun _ _ _ h => h) ⟨hK, hE⟩ rfl (fun W hW => r_load_blk rfl Tryd.isAgg22 rfl (hW.1.get 2 rfl) rfl) ?_
      refine h_t 5 rfl rfl (by kernel_rfl) (fun _ _ _ h => h) ⟨hK, hE⟩ rfl (fun W hW => r_fieldAddr (n := 0) rfl Tryd.underlying72 rfl Tryd.sizeOf3 rfl) ?_
      refine h_t 6 rfl rfl (by kernel_rfl) (fun _ _ _ h => h) ⟨hK, hE⟩ rfl (fun W hW => r_load_blk rfl Tryd.isAgg3 rfl (hW.1.get 1 rfl) rfl) ?_
      refine h_t 7 rfl rfl (by kernel_rfl) (fun _ _ _ h => h) ⟨hK, hE⟩ rfl (fun W hW => r_indexAddr_sl rfl Tryd.underlying22 Tryd.sizeOf45 rfl hg.is rfl hp.1 hp.2.1) ?_
      refine h_t 8 rfl rfl (by kernel_rfl) (fun _ _ _ h => h) ⟨hK, hE⟩ rfl (fun W hW => r_fieldAddr (n := 0) rfl Tryd.underlying45 rfl Tryd.sizeOf3 rfl) ?_
      refine h_t 9 rfl rfl (by kernel_rfl) (fun _ _ _ h => h) ⟨hK, hE⟩ rfl (fun W hW => r_load rfl Tryd.isAgg3 rfl (Ext0.cells (hXB hW.2) _ _ (hnd 0 _ rfl))) ?_
      refine h_t 10 rfl rfl (by kernel_rfl) (fun _ _ _ h => h) ⟨hK, hE⟩ rfl (fun W hW => r_neq rfl rfl rfl) ?_
      refine h_done (by kernel_rfl) ?_
      refine c_cond rfl (fun hb => ?_) (fun hb => ?_)
      · -- True
        have hr48 := hb
        replace hb := of_decide_eq_false (by simpa using hb)
        -- region 9
        refine c_draw mixed (hL.sub (.cons _ (.cons_cons _ (.cons_cons _ (.cons_cons _ (.cons_cons _ .slnil)))))) hE ?_
        replace hL := hL.drew
        replace hE := hE.drew
        have hK := hL.sub (.cons _ (.cons_cons _ (.cons_cons _ (.cons_cons _ (.cons_cons _ .slnil)))))
        refine h_t 0 rfl rfl (by kernel_rfl) (fun _ _ _ h => h) ⟨hK, hE⟩ rfl (fun W hW => r_move rfl) ?_
        refine h_t 1 rfl rfl (by kernel_rfl) (fun _ _ _ h => h) ⟨hK, hE⟩ rfl (fun W hW => r_nilCheck rfl rfl) ?_
        refine h_t 2 rfl rfl (by kernel_rfl) (fun _ _ _ h => h) ⟨hK, hE⟩ rfl (fun W hW => r_fieldAddr (n := 1) rfl Tryd.underlying68 rfl Tryd.sizeOf65 rfl) ?_
        refine h_t 3 rfl rfl (by kernel_rfl) (fun _ _ _ h => h) ⟨hK, hE⟩ rfl (fun W hW => r_fieldAddr (n := 0) rfl Tryd.underlying65 rfl Tryd.sizeOf22 rfl) ?_
        refine h_t 4 rfl rfl (by kernel_rfl) (fun _ _ _ h => h) ⟨hK, hE⟩ rfl (fun W hW => r_load_blk rfl Tryd.isAgg22 rfl (hW.1.get 1 rfl) rfl) ?_
        refine h_t 5 rfl rfl (by kernel_rfl) (fun _ _ _ h => h) ⟨hK, hE⟩ rfl (fun W hW => r_fieldAddr (n := 0) rfl Tryd.underlying72 rfl Tryd.sizeOf3 rfl) ?_
        refine h_t 6 rfl rfl (by kernel_rfl) (fun _ _ _ h => h) ⟨hK, hE⟩ rfl (fun W hW => r_load_blk rfl Tryd.isAgg3 rfl (hW.1.get 0 rfl) rfl) ?_
        refine h_t 7 rfl rfl (by kernel_rfl) (fun _ _ _ h => h) ⟨hK, hE⟩ rfl (fun W hW => r_fieldAddr (n := 0) rfl Tryd.underlying72 rfl Tryd.sizeOf3 rfl) ?_
        refine h_t 8 rfl rfl (by kernel_rfl) (fun _ _ _ h => h) ⟨hK, hE⟩ rfl (fun W hW => r_load_blk rfl Tryd.isAgg3 rfl (hW.1.get 0 rfl) rfl) ?_
        refine h_by 9 rfl rfl (by kernel_rfl) rfl (r_call rfl rfl Tryd.func45 rfl rfl) (Pick_calls _ Ag cg g (hg.keep RNode.kept (Ext0.cells (hXB hE))) hok (by omega) (hk0.keep (Ext0.cells (hXB hE))) p.1 p.2 hp hb hm) ?_   -- fact.go:215 slot 58 := (call {callee=(value (func 45)), args=[(tmp 53), (tmp 55), (tmp 57)], argTypes=[22, 3, 3]})
        rintro _ w ⟨rfl, hX⟩
        replace hL := hL.ext0 hX
        replace hE := hE.step0 hX
        have hK := hL.sub (.cons _ (.cons_cons _ (.cons_cons _ (.cons_cons _ (.cons_cons _ .slnil)))))
        refine ⟨_, rfl, ⟨hK, hE⟩, ?_⟩
        refine h_new 10 rfl rfl (by kernel_rfl) rfl (n_slice rfl Tryd.underlying30 Tryd.sizeOf3 Tryd.zeroValue3 rfl rfl (fill_int1 _) hL hE) ?_
        rintro _ w ⟨s59, rfl, hs59, hL, hE, hX⟩
        have hK := hL.sub (.cons _ (.cons _ (.cons_cons _ (.cons_cons _ (.cons_cons _ (.cons_cons _ .slnil))))))
        refine ⟨⟨hK, hE⟩, ?_⟩
        refine h_t 11 rfl rfl (by kernel_rfl) (fun _ _ _ h => h) ⟨hK, hE⟩ rfl (fun W hW => r_fieldAddr (n := 0) rfl Tryd.underlying37 rfl Tryd.sizeOf30 rfl) ?_
        refine h_new_do 12 rfl rfl (by kernel_rfl) rfl (r_store 1 rfl Tryd.sizeOf30 rfl hL hE rfl rfl rfl rfl (fun h => absurd h (Nat.not_lt.2 hb8))) ?_
        rintro w ⟨hL, hE, hz, hk⟩
        have hK := hL.sub (.cons _ (.cons _ (.cons_cons _ (.cons_cons _ (.cons_cons _ (.cons_cons _ .slnil))))))
        refine ⟨⟨hK, hE⟩, ?_⟩
        refine h_done (by kernel_rfl) ?_
        refine ⟨by repeat (first | exact Agree.over _ _ _ | exact Agree.refl _ _ | (refine Agree.puto ?_ _ _ rfl) | (refine Agree.put ?_ _ _ rfl) | (refine Agree.sub ?_ rfl)), ?_⟩
        first
          | exact ⟨.slice (some ⟨s59, 0, none⟩) 1 1, fun b hb => (by injection hb with hb; rw [← hb]; exact hs59), by rw [firstP_no hb]; exact Has.asRow (n := 1) hL (Nat.le_trans hsz hs59) rfl (by decide), hE⟩
          | exact ⟨.slice none 0 0, fun b hb => (by cases hb), by rw [firstP_8 hb]; exact hL.nilRow _ _ _, hE⟩
      · -- False
        have hr48 := hb
        replace hb := of_decide_eq_true (by simpa using hb)
        refine c_skip ?_
        refine ⟨by repeat (first | exact Agree.over _ _ _ | exact Agree.refl _ _ | (refine Agree.puto ?_ _ _ rfl) | (refine Agree.put ?_ _ _ rfl) | (refine Agree.sub ?_ rfl)), ?_⟩
        first
          | exact ⟨.slice (some ⟨s59, 0, none⟩) 1 1, fun b hb => (by injection hb with hb; rw [← hb]; exact hs59), by rw [firstP_no hb]; exact Has.asRow (n := 1) hL (Nat.le_trans hsz hs59) rfl (by decide), hE⟩
          | exact ⟨.slice none 0 0, fun b hb => (by cases hb), by rw [firstP_8 hb]; exact hL.nilRow _ _ _, hE⟩
    rintro e w hI
    obtain ⟨wv0, hwv0, hL, hE⟩ := hI
    obtain ⟨Aw, cw, rfl⟩ := ownsRow_slice (hL.row 0 rfl)
    refine c_seq ?_
    -- region 10
    refine c_draw mixed (hL.sub (.cons_cons _ (.cons_cons _ (.cons_cons _ (.cons_cons _ (.cons _ (.cons_cons _ .slnil))))))) hE ?_
    replace hL := hL.drew
    replace hE := hE.drew
    have hK := hL.sub (.cons_cons _ (.cons_cons _ (.cons_cons _ (.cons_cons _ (.cons _ (.cons_cons _ .slnil))))))
    refine h_t 0 rfl rfl (by kernel_rfl) (fun _ _ _ h => h) ⟨hK, hE⟩ rfl (fun W hW => r_move rfl) ?_
    refine h_t 1 rfl rfl (by kernel_rfl) (fun _ _ _ h => h) ⟨hK, hE⟩ rfl (fun W hW => r_nilCheck rfl rfl) ?_
    refine h_t 2 rfl rfl (by kernel_rfl) (fun _ _ _ h => h) ⟨hK, hE⟩ rfl (fun W hW => r_fieldAddr (n := 0) rfl Tryd.underlying68 rfl Tryd.sizeOf66 rfl) ?_
    refine h_t 3 rfl rfl (by kernel_rfl) (fun _ _ _ h => h) ⟨hK, hE⟩ rfl (fun W hW => r_load_blk rfl Tryd.isAgg66 rfl (hW.1.get 3 rfl) rfl) ?_
    refine h_t 4 rfl rfl (by kernel_rfl) (fun _ _ _ h => h) ⟨hK, hE⟩ rfl (fun W hW => r_load_agg (vs := cells2 p) rfl Tryd.isAgg72 Tryd.sizeOf72 rfl (blk_raw (cs := #[.int .i64 p.1, .int .i64 p.2]) (hW.1.get 2 rfl) rfl)) ?_
    refine h_t 5 rfl rfl (by kernel_rfl) (fun _ _ _ h => h) ⟨hK, hE⟩ rfl (fun W hW => r_move rfl) ?_
    refine h_new_do 6 rfl rfl (by kernel_rfl) rfl (r_mapUpdate (k := p) (v := (fv.length : Int)) 4 rfl Tryd.underlying66 key_fpair rfl rfl rfl hL hE rfl (fun _ => .inr (.inl rfl))) ?_   -- fact.go:217 slot None := (mapUpdate 66 (tmp 64) (tmp 65) (tmp 66))
    rintro w ⟨hL, hE, hz, hk⟩
    have hK := hL.sub (.cons_cons _ (.cons_cons _ (.cons_cons _ (.cons_cons _ (.cons _ (.cons_cons _ .slnil))))))
    refine ⟨⟨hK, hE⟩, ?_⟩
    refine h_done (by kernel_rfl) ?_
    refine c_merge [67, 68, 69, 70, 71, 72, 73, 74, 75, 76, 77, 78] (fun e w => ∃ A1 c1, (∀ b, (Value.slice A1 (fv.length + 1) c1).ownBlock = some b → (Value.slice Al fv.length cl).ownBlock = some b ∨ w0.heap.size ≤ b) ∧ Has w [.row wB.heap.size 3 1 (Value.slice Aw (firstP g p).why.length cw) (firstP g p).why.length ((firstP g p).why.map (Value.int .i64)), .blk b8 (.cells #[.int .i64 p.1, .int .i64 p.2, (Value.slice Aw (firstP g p).why.length cw)] 37 (0, 0)), .blk b3 (.cells #[.int .i64 p.1, .int .i64 p.2] 72 (0, 0)), .blk xb (fxB Ag g.length cg (Value.slice A1 (fv.length + 1) c1) mb), .blk mb (mapObj enc2 (Value.int .i64) (setM mp p (fv.length : Int))), .row wB.heap.size 37 3 (Value.slice A1 (fv.length + 1) c1) ((fv ++ [(firstP g p, (Value.slice Aw (firstP g p).why.length cw))])).length (((fv ++ [(firstP g p, (Value.slice Aw (firstP g p).why.length cw))])).map fcell).flatten] ∧ Ext (FS xb mb (.slice Al fv.length cl)) w0 w) ?_ ?_
    · -- merged
      -- region 11
      refine c_draw mixed (hL.sub (.cons_cons _ (.cons_cons _ (.cons_cons _ (.cons _ (.cons_cons _ (.cons _ .slnil))))))) hE ?_
      replace hL := hL.drew
      replace hE := hE.drew
      have hK := hL.sub (.cons_cons _ (.cons_cons _ (.cons_cons _ (.cons _ (.cons_cons _ (.cons _ .slnil))))))
      refine h_t 0 rfl rfl (by kernel_rfl) (fun _ _ _ h => h) ⟨hK, hE⟩ rfl (fun W hW => r_move rfl) ?_
      refine h_t 1 rfl rfl (by kernel_rfl) (fun _ _ _ h => h) ⟨hK, hE⟩ rfl (fun W hW => r_move rfl) ?_
      refine h_t 2 rfl rfl (by kernel_rfl) (fun _ _ _ h => h) ⟨hK, hE⟩ rfl (fun W hW => r_nilCheck rfl rfl) ?_
      refine h_t 3 rfl rfl (by kernel_rfl) (fun _ _ _ h => h) ⟨hK, hE⟩ rfl (fun W hW => r_fieldAddr (n := 1) rfl Tryd.underlying68 rfl Tryd.sizeOf65 rfl) ?_
      refine h_t 4 rfl rfl (by kernel_rfl) (fun _ _ _ h => h) ⟨hK, hE⟩ rfl (fun W hW => r_fieldAddr (n := 0) rfl Tryd.underlying65 rfl Tryd.sizeOf29 rfl) ?_
      refine h_t 6 rfl rfl (by kernel_rfl) (fun _ _ _ h => h) ⟨hK, hE⟩ rfl (fun W hW => r_load_agg (vs := [.int .i64 p.1, .int .i64 p.2, (Value.slice Aw (firstP g p).why.length cw)]) rfl Tryd.isAgg37 Tryd.sizeOf37 rfl (blk_raw (cs := #[.int .i64 p.1, .int .i64 p.2, (Value.slice Aw (firstP g p).why.length cw)]) (hW.1.get 1 rfl) rfl)) ?_
      refine h_many [5, 7] (by kernel_rfl) ⟨?_, ?_, trivial⟩
      · -- operation 5 first
        refine o_val 5 rfl rfl rfl rfl (r_load_blk rfl Tryd.isAgg29 rfl (hL.get 3 rfl) rfl) ⟨hK, hE⟩ ?_
        refine h_new 7 rfl rfl (by kernel_rfl) rfl (n_slice (cells := #[.int .i64 p.1, .int .i64 p.2, (Value.slice Aw (firstP g p).why.length cw)]) rfl Tryd.underlying29 Tryd.sizeOf37 Tryd.zeroValue37 rfl rfl (fill_fact _ _ _) hL hE) ?_
        rintro _ w ⟨s74, rfl, hs74, hL, hE, hX⟩
        have hK := hL.sub (.cons _ (.cons_cons _ (.cons_cons _ (.cons_cons _ (.cons _ (.cons_cons _ (.cons _ .slnil)))))))
        refine ⟨⟨hK, hE⟩, ?_⟩
        have hE75 := hE.size
        refine h_new 8 rfl rfl (by kernel_rfl) rfl (r_append_own (ys := fcell (firstP g p, (Value.slice Aw (firstP g p).why.length cw))) 6 rfl Tryd.underlying29 info_fact rfl (by decide) rfl rfl hL hE rfl rfl (blk_raw (cs := #[.int .i64 p.1, .int .i64 p.2, (Value.slice Aw (firstP g p).why.length cw)]) (hL.get 0 rfl) rfl) (fun u hu => by simp [fcell] at hu; rcases hu with rfl | rfl | rfl <;> rfl) (by omega) (by omega) (fun b hb _ => .inr (.inr hb)) (hXB hE).size) ?_
        rintro _ w ⟨hL, hE, hlv1, hlv2⟩
        obtain ⟨A1, c1, rfl⟩ := ownsRow_slice (hL.row 6 rfl)
        replace hL : Has w [.blk s74 (.cells #[.int .i64 p.1, .int .i64 p.2, (Value.slice Aw (firstP g p).why.length cw)] 37 (0, 0)), .row wB.heap.size 3 1 (Value.slice Aw (firstP g p).why.length cw) (firstP g p).why.length ((firstP g p).why.map (Value.int .i64)), .blk b8 (.cells #[.int .i64 p.1, .int .i64 p.2, (Value.slice Aw (firstP g p).why.length cw)] 37 (0, 0)), .blk b3 (.cells #[.int .i64 p.1, .int .i64 p.2] 72 (0, 0)), .blk xb (fxB Ag g.length cg (Value.slice Al fv.length cl) mb), .blk mb (mapObj enc2 (Value.int .i64) (setM mp p (fv.length : Int))), .row wB.heap.size 37 3 (Value.slice A1 (fv.length + 1) c1) ((fv ++ [(firstP g p, (Value.slice Aw (firstP g p).why.length cw))])).length (((fv ++ [(firstP g p, (Value.slice Aw (firstP g p).why.length cw))])).map fcell).flatten] := by rw [← fcells_snoc, List.length_append]; exact hL
        have hK := hL.sub (.cons _ (.cons_cons _ (.cons_cons _ (.cons_cons _ (.cons _ (.cons_cons _ (.cons _ .slnil)))))))
        refine ⟨⟨hK, hE⟩, ?_⟩
        refine h_t 9 rfl rfl (by kernel_rfl) (fun _ _ _ h => h) ⟨hK, hE⟩ rfl (fun W hW => r_nilCheck rfl rfl) ?_
        refine h_t 10 rfl rfl (by kernel_rfl) (fun _ _ _ h => h) ⟨hK, hE⟩ rfl (fun W hW => r_fieldAddr (n := 1) rfl Tryd.underlying68 rfl Tryd.sizeOf65 rfl) ?_
        refine h_t 11 rfl rfl (by kernel_rfl) (fun _ _ _ h => h) ⟨hK, hE⟩ rfl (fun W hW => r_fieldAddr (n := 0) rfl Tryd.underlying65 rfl Tryd.sizeOf29 rfl) ?_
        refine h_new_do 12 rfl rfl (by kernel_rfl) rfl (r_store 4 rfl Tryd.sizeOf29 rfl hL hE rfl rfl rfl rfl (fun _ => .inl rfl)) ?_
        rintro w ⟨hL, hE, hz, hk⟩
        have hK := hL.sub (.cons _ (.cons_cons _ (.cons_cons _ (.cons_cons _ (.cons _ (.cons_cons _ (.cons _ .slnil)))))))
        refine ⟨⟨hK, hE⟩, ?_⟩
        refine h_done (by kernel_rfl) ?_
        refine ⟨by repeat (first | exact Agree.over _ _ _ | exact Agree.refl _ _ | (refine Agree.puto ?_ _ _ rfl) | (refine Agree.put ?_ _ _ rfl) | (refine Agree.sub ?_ rfl)), ?_⟩
        exact ⟨A1, c1, fun b hb => (hlv2 b hb).imp id (Nat.le_trans hE75), hL.tail, hE⟩
      · -- operation 7 first
        refine o_new 7 rfl rfl rfl rfl (n_slice (cells := #[.int .i64 p.1, .int .i64 p.2, (Value.slice Aw (firstP g p).why.length cw)]) rfl Tryd.underlying29 Tryd.sizeOf37 Tryd.zeroValue37 rfl rfl (fill_fact _ _ _) hL hE) ?_
        rintro _ w ⟨s74, rfl, hs74, hL, hE, hX⟩
        have hK := hL.sub (.cons _ (.cons_cons _ (.cons_cons _ (.cons_cons _ (.cons _ (.cons_cons _ (.cons _ .slnil)))))))
        refine ⟨⟨hK, hE⟩, ?_⟩
        refine h_one 5 rfl rfl (by kernel_rfl) rfl (r_load_blk rfl Tryd.isAgg29 rfl (hL.get 4 rfl) rfl) ⟨hK, hE⟩ ?_
        have hE75 := hE.size
        refine h_new 8 rfl rfl (by kernel_rfl) rfl (r_append_own (ys := fcell (firstP g p, (Value.slice Aw (firstP g p).why.length cw))) 6 rfl Tryd.underlying29 info_fact rfl (by decide) rfl rfl hL hE rfl rfl (blk_raw (cs := #[.int .i64 p.1, .int .i64 p.2, (Value.slice Aw (firstP g p).why.length cw)]) (hL.get 0 rfl) rfl) (fun u hu => by simp [fcell] at hu; rcases hu with rfl | rfl | rfl <;> rfl) (by omega) (by omega) (fun b hb _ => .inr (.inr hb)) (hXB hE).size) ?_
        rintro _ w ⟨hL, hE, hlv1, hlv2⟩
        obtain ⟨A1, c1, rfl⟩ := ownsRow_slice (hL.row 6 rfl)
        replace hL : Has w [.blk s74 (.cells #[.int .i64 p.1, .int .i64 p.2, (Value.slice Aw (firstP g p).why.length cw)] 37 (0, 0)), .row wB.heap.size 3 1 (Value.slice Aw (firstP g p).why.length cw) (firstP g p).why.length ((firstP g p).why.map (Value.int .i64)), .blk b8 (.cells #[.int .i64 p.1, .int .i64 p.2, (Value.slice Aw (firstP g p).why.length cw)] 37 (0, 0)), .blk b3 (.cells #[.int .i64 p.1, .int .i64 p.2] 72 (0, 0)), .blk xb (fxB Ag g.length cg (Value.slice Al fv.length cl) mb), .blk mb (mapObj enc2 (Value.int .i64) (setM mp p (fv.length : Int))), .row wB.heap.size 37 3 (Value.slice A1 (fv.length + 1) c1) ((fv ++ [(firstP g p, (Value.slice Aw (firstP g p).why.length cw))])).length (((fv ++ [(firstP g p, (Value.slice Aw (firstP g p).why.length cw))])).map fcell).flatten] := by rw [← fcells_snoc, List.length_append]; exact hL
        have hK := hL.sub (.cons _ (.cons_cons _ (.cons_cons _ (.cons_cons _ (.cons _ (.cons_cons _ (.cons _ .slnil)))))))
        refine ⟨⟨hK, hE⟩, ?_⟩
        refine h_t 9 rfl rfl (by kernel_rfl) (fun _ _ _ h => h) ⟨hK, hE⟩ rfl (fun W hW => r_nilCheck rfl rfl) ?_
        refine h_t 10 rfl rfl (by kernel_rfl) (fun _ _ _ h => h) ⟨hK, hE⟩ rfl (fun W hW => r_fieldAddr (n := 1) rfl Tryd.underlying68 rfl Tryd.sizeOf65 rfl) ?_
        refine h_t 11 rfl rfl (by kernel_rfl) (fun _ _ _ h => h) ⟨hK, hE⟩ rfl (fun W hW => r_fieldAddr (n := 0) rfl Tryd.underlying65 rfl Tryd.sizeOf29 rfl) ?_
        refine h_new_do 12 rfl rfl (by kernel_rfl) rfl (r_store 4 rfl Tryd.sizeOf29 rfl hL hE rfl rfl rfl rfl (fun _ => .inl rfl)) ?_
        rintro w ⟨hL, hE, hz, hk⟩
        have hK := hL.sub (.cons _ (.cons_cons _ (.cons_cons _ (.cons_cons _ (.cons _ (.cons_cons _ (.cons _ .slnil)))))))
        refine ⟨⟨hK, hE⟩, ?_⟩
        refine h_done (by kernel_rfl) ?_
        refine ⟨by repeat (first | exact Agree.over _ _ _ | exact Agree.refl _ _ | (refine Agree.puto ?_ _ _ rfl) | (refine Agree.put ?_ _ _ rfl) | (refine Agree.sub ?_ rfl)), ?_⟩
        exact ⟨A1, c1, fun b hb => (hlv2 b hb).imp id (Nat.le_trans hE75), hL.tail, hE⟩
    rintro e w hI
    obtain ⟨A1, c1, hlv1, hL, hE⟩ := hI
    refine c_seq ?_
    -- region 12
    refine c_draw mixed (hL) hE ?_
    replace hL := hL.drew
    replace hE := hE.drew
    have hK := hL
    refine h_t 0 rfl rfl (by kernel_rfl) (fun _ _ _ h => h) ⟨hK, hE⟩ rfl (fun W hW => r_move rfl) ?_
    refine h_t 1 rfl rfl (by kernel_rfl) (fun _ _ _ h => h) ⟨hK, hE⟩ rfl (fun W hW => r_nilCheck rfl rfl) ?_
    refine h_t 2 rfl rfl (by kernel_rfl) (fun _ _ _ h => h) ⟨hK, hE⟩ rfl (fun W hW => r_fieldAddr (n := 1) rfl Tryd.underlying68 rfl Tryd.sizeOf65 rfl) ?_
    refine h_t 3 rfl rfl (by kernel_rfl) (fun _ _ _ h => h) ⟨hK, hE⟩ rfl (fun W hW => r_load_agg (vs := [.int .i64 p.1, .int .i64 p.2, (Value.slice Aw (firstP g p).why.length cw)]) rfl Tryd.isAgg37 Tryd.sizeOf37 rfl (blk_raw (cs := #[.int .i64 p.1, .int .i64 p.2, (Value.slice Aw (firstP g p).why.length cw)]) (hW.1.get 1 rfl) rfl)) ?_
    refine h_by 4 rfl rfl (by kernel_rfl) rfl (r_call rfl rfl Tryd.func46 rfl rfl) (by_calls _ xb Ag cg g (hg.keep RNode.kept (Ext0.cells (hXB hE))) hok (by rw [blk_cell (hL.get 3 rfl)]; rfl) (firstP g p) Aw cw (Sl.ints_at (hL.row 0 rfl)) hfnd.ok) ?_   -- fact.go:219 slot 84 := (call {callee=(value (func 46)), args=[(tmp 82), (tmp 83)], argTypes=[65, 37]})
    rintro _ w ⟨v9, rfl, hrow9, hX⟩
    obtain ⟨A9, c9, rfl⟩ := ownsRow_slice hrow9
    replace hL := hL.cons hX (r := .row wB.heap.size 72 2 (.slice A9 (byF g (firstP g p)).1.length c9) (byF g (firstP g p)).1.length ((byF g (firstP g p)).1.map cells2).flatten) (ownsRow_base hrow9 (hXB hE).size) (fun b hb => (ownsRow_lt hrow9 hb).2)
    replace hE := hE.step0 hX
    have hK := hL.sub (.cons _ (.cons_cons _ (.cons_cons _ (.cons_cons _ (.cons_cons _ (.cons_cons _ (.cons_cons _ .slnil)))))))
    refine ⟨_, rfl, ⟨hK, hE⟩, ?_⟩
    refine h_t 5 rfl rfl (by kernel_rfl) (fun _ _ _ h => h) ⟨hK, hE⟩ rfl (fun W hW => r_move rfl) ?_
    refine h_t 6 rfl rfl (by kernel_rfl) (fun _ _ _ h => h) ⟨hK, hE⟩ rfl (fun W hW => r_extract rfl rfl rfl) ?_
    refine h_t 7 rfl rfl (by kernel_rfl) (fun _ _ _ h => h) ⟨hK, hE⟩ rfl (fun W hW => r_extract rfl rfl rfl) ?_
    refine h_t 8 rfl rfl (by kernel_rfl) (fun _ _ _ h => h) ⟨hK, hE⟩ rfl (fun W hW => r_assign rfl) ?_
    refine h_t 9 rfl rfl (by kernel_rfl) (fun _ _ _ h => h) ⟨hK, hE⟩ rfl (fun W hW => r_assign rfl) ?_
    refine h_done (by kernel_rfl) ?_
    refine c_seq ?_
    refine c_seq ?_
    -- region 13
    refine c_ops ?_
    refine l_val rfl rfl rfl (r_move rfl) ?_
    refine l_val rfl rfl rfl (r_len rfl Tryd.underlying93 rfl) ?_
    refine l_val rfl rfl rfl (r_move rfl) ?_
    refine l_nil ?_
    refine c_block ?_
    -- loop 0: slots that it writes and that are read in it ahead of that: [89]
    refine c_loop [12, 89, 90, 91, 92, 93, 94, 95, 96, 97, 98, 99, 100, 101] (fun m1 e w => ∃ (n : Nat) (ws ys : List Int) (wv lv' : Value) (mp' : PM) (news : List FV), n ≤ (onP g p).length ∧ m1 = (onP g p).length - n ∧ e 89 = .int .i64 n ∧ findsF (findF g k) ((onP g p).take n) (fv.map (·.1) ++ [firstP g p]) = (ws, ((fv ++ [(firstP g p, (Value.slice Aw (firstP g p).why.length cw))]) ++ news).map (·.1)) ∧ ys = (firstP g p).why ++ ws ∧ MapIs mp' (((fv ++ [(firstP g p, (Value.slice Aw (firstP g p).why.length cw))]) ++ news).map (·.1)) ∧ (∀ b, wv.ownBlock = some b → w0.heap.size ≤ b) ∧ (∀ x ∈ news, ∀ b, x.2.ownBlock = some b → w0.heap.size ≤ b) ∧ (∀ b, lv'.ownBlock = some b → (Value.slice Al fv.length cl).ownBlock = some b ∨ w0.heap.size ≤ b) ∧ Has w (.row wB.heap.size 72 2 (.slice A9 (onP g p).length c9) (onP g p).length ((onP g p).map cells2).flatten :: .row wB.heap.size 3 1 wv ys.length (ys.map (Value.int .i64)) :: .blk b8 (.cells #[.int .i64 p.1, .int .i64 p.2, wv] 37 (0, 0)) :: .blk b3 (.cells #[.int .i64 p.1, .int .i64 p.2] 72 (0, 0)) :: .blk xb (fxB Ag g.length cg lv' mb) :: .blk mb (mapObj enc2 (Value.int .i64) mp') :: .row wB.heap.size 37 3 lv' ((fv ++ [(firstP g p, (Value.slice Aw (firstP g p).why.length cw))]) ++ news).length (((fv ++ [(firstP g p, (Value.slice Aw (firstP g p).why.length cw))]) ++ news).map fcell).flatten :: news.map (fres 3 wB.heap.size)) ∧ Ext (FS xb mb (.slice Al fv.length cl)) w0 w) (onP g p).length ?_ ?_
    · exact ⟨0, [], (firstP g p).why, _, _, _, [], Nat.zero_le _, rfl, rfl, by simp [findsF], by simp, by simpa using hmap.snoc (f := firstP g p) rfl ha, hwv0, fun x hx => by simp at hx, hlv1, by rw [List.append_nil]; exact hL, hE⟩
    intro m1 e w hI
    obtain ⟨n, ws, ys, wv, lv', mp', news, hnl, hmn, h89, hfn, hys, hmapn, hwv, hnw, hlv', hL, hE⟩ := hI
    refine c_know h89 ?_
    obtain ⟨news0, e0, hgo, hlen0, hat0, _, _⟩ := hall n
    refine c_seq ?_
    -- region 14
    refine c_ops ?_
    refine l_val rfl rfl rfl (r_lss rfl rfl rfl) ?_
    refine l_nil ?_
    refine c_seq ?_
    refine c_cond rfl (fun hb => ?_) (fun hb => ?_)
    · -- True
      have hr90 := hb
      replace hb := of_decide_eq_true hb
      replace hb : (n : Int) < ((onP g p).length : Int) := hb
      have hnn2 : n < (onP g p).length := by omega
      obtain ⟨q, hqd⟩ : ∃ q, q = (onP g p).getD (n : Int).toNat (0, 0) := ⟨_, rfl⟩
      have hqn : (onP g p)[n]? = some q := by rw [hqd]; exact pat_nat hnn2
      have hqi := hfnd.inn q (List.mem_of_getElem? hqn)
      rw [hfn] at hgo hlen0
      have hwl : ws.length = n := by rw [hlen0, List.length_take]; omega
      have hlenn : ((fv ++ [(firstP g p, (Value.slice Aw (firstP g p).why.length cw))]) ++ news).length = fv.length + 1 + news.length := by simp; omega
      have hgl : ((fv ++ [(firstP g p, (Value.slice Aw (firstP g p).why.length cw))]) ++ news).length ≤ g.length * g.length := by have := hgo.le; simpa using this
      have honm := (Sl.pairs_at (hL.row 0 rfl)).max
      have hyl : ys.length ≤ 1 + n := by rw [hys, List.length_append, hwl]; have := why_le g p; omega
      have honl := on_le hok hp hm
      refine c_skip ?_
      refine c_merge [12, 91, 92, 93, 94, 95, 96, 97, 98, 99, 100] (fun e w => ∃ (ws ys : List Int) (wv lv' : Value) (mp' : PM) (news : List FV), findsF (findF g k) ((onP g p).take (n + 1)) (fv.map (·.1) ++ [firstP g p]) = (ws, ((fv ++ [(firstP g p, (Value.slice Aw (firstP g p).why.length cw))]) ++ news).map (·.1)) ∧ ys = (firstP g p).why ++ ws ∧ MapIs mp' (((fv ++ [(firstP g p, (Value.slice Aw (firstP g p).why.length cw))]) ++ news).map (·.1)) ∧ (∀ b, wv.ownBlock = some b → w0.heap.size ≤ b) ∧ (∀ x ∈ news, ∀ b, x.2.ownBlock = some b → w0.heap.size ≤ b) ∧ (∀ b, lv'.ownBlock = some b → (Value.slice Al fv.length cl).ownBlock = some b ∨ w0.heap.size ≤ b) ∧ Has w (.row wB.heap.size 72 2 (.slice A9 (onP g p).length c9) (onP g p).length ((onP g p).map cells2).flatten :: .row wB.heap.size 3 1 wv ys.length (ys.map (Value.int .i64)) :: .blk b8 (.cells #[.int .i64 p.1, .int .i64 p.2, wv] 37 (0, 0)) :: .blk b3 (.cells #[.int .i64 p.1, .int .i64 p.2] 72 (0, 0)) :: .blk xb (fxB Ag g.length cg lv' mb) :: .blk mb (mapObj enc2 (Value.int .i64) mp') :: .row wB.heap.size 37 3 lv' ((fv ++ [(firstP g p, (Value.slice Aw (firstP g p).why.length cw))]) ++ news).length (((fv ++ [(firstP g p, (Value.slice Aw (firstP g p).why.length cw))]) ++ news).map fcell).flatten :: news.map (fres 3 wB.heap.size)) ∧ Ext (FS xb mb (.slice Al fv.length cl)) w0 w) ?_ ?_
      · -- merged
        refine c_block ?_
        refine c_seq ?_
        -- region 15
        refine c_ops ?_
        refine l_val rfl rfl rfl (r_indexAddr_sl rfl Tryd.underlying93 Tryd.sizeOf72 rfl (Sl.pairs_at (hL.row 0 rfl)).is rfl (by omega) hb) ?_
        refine l_val rfl rfl rfl (r_load_agg (vs := cells2 q) rfl Tryd.isAgg72 Tryd.sizeOf72 rfl (by rw [hqd]; exact (Sl.pairs_at (hL.row 0 rfl)).pair n (by omega) (by omega))) ?_
        refine l_new rfl rfl rfl (n_alloc rfl Tryd.zeroValue72 hL hE) ?_
        rintro _ w ⟨b12, rfl, hb12, hL, hE, hX⟩
        refine l_new_do rfl rfl (r_store 0 rfl Tryd.sizeOf72 rfl hL hE rfl rfl rfl rfl (fun h => absurd h (Nat.not_lt.2 hb12))) ?_
        rintro w ⟨hL, hE, hz, hk⟩
        refine l_nil ?_
        -- region 16
        refine c_draw mixed (hL.sub (.cons_cons _ (.cons_cons _ (.cons _ (.cons _ (.cons_cons _ (.cons _ (.cons _ (.cons _ (List.nil_sublist _)))))))))) hE ?_
        replace hL := hL.drew
        replace hE := hE.drew
        have hK := hL.sub (.cons_cons _ (.cons_cons _ (.cons _ (.cons _ (.cons_cons _ (.cons _ (.cons _ (.cons _ (List.nil_sublist _)))))))))
        replace hL : Has _ (.blk b12 (.cells #[.int .i64 q.1, .int .i64 q.2] 72 (0, 0)) :: .row wB.heap.size 72 2 (.slice A9 (onP g p).length c9) (onP g p).length ((onP g p).map cells2).flatten :: .row wB.heap.size 3 1 wv ys.length (ys.map (Value.int .i64)) :: .blk b8 (.cells #[.int .i64 p.1, .int .i64 p.2, wv] 37 (0, 0)) :: .blk b3 (.cells #[.int .i64 p.1, .int .i64 p.2] 72 (0, 0)) :: .blk xb (fxB Ag g.length cg lv' mb) :: .blk mb (mapObj enc2 (Value.int .i64) mp') :: .row wB.heap.size 37 3 lv' ((fv ++ [(firstP g p, (Value.slice Aw (firstP g p).why.length cw))]) ++ news).length (((fv ++ [(firstP g p, (Value.slice Aw (firstP g p).why.length cw))]) ++ news).map fcell).flatten :: news.map (fres 3 wB.heap.size)) := hL
        refine h_t 0 rfl rfl (by kernel_rfl) (fun _ _ _ h => h) ⟨hK, hE⟩ rfl (fun W hW => r_fieldAddr (n := 0) rfl Tryd.underlying37 rfl Tryd.sizeOf30 rfl) ?_
        refine h_t 2 rfl rfl (by kernel_rfl) (fun _ _ _ h => h) ⟨hK, hE⟩ rfl (fun W hW => r_move rfl) ?_
        refine h_t 3 rfl rfl (by kernel_rfl) (fun _ _ _ h => h) ⟨hK, hE⟩ rfl (fun W hW => r_load_agg (vs := cells2 q) rfl Tryd.isAgg72 Tryd.sizeOf72 rfl (blk_raw (cs := #[.int .i64 q.1, .int .i64 q.2]) (hW.1.get 0 rfl) rfl)) ?_
        refine h_many [1, 4] (by kernel_rfl) ⟨?_, ?_, trivial⟩
        · -- operation 1 first
          refine o_val 1 rfl rfl rfl rfl (r_load_blk rfl Tryd.isAgg30 rfl (hL.get 3 rfl) rfl) ⟨hK, hE⟩ ?_
          refine h_by 4 rfl rfl (by kernel_rfl) rfl (r_call rfl rfl Tryd.func30 rfl rfl) (IH _ q ((fv ++ [(firstP g p, (Value.slice Aw (firstP g p).why.length cw))]) ++ news) mp' lv' (hXB hE) (hL.sub (.cons _ (.cons _ (.cons _ (.cons _ (.cons _ (.cons_cons _ (.cons_cons _ (.cons_cons _ (List.nil_sublist _))))))))) ) hgo hmapn hqi.1 hqi.2 (by omega)) ?_   -- fact.go:221 slot 97 := (call {callee=(value (func 30)), args=[(tmp 95), (tmp 96)], argTypes=[63, 72]})
          rintro _ w ⟨hen, lv2, mp2, news2, hr2, hmp2, hL2, hX, hnw2, hlv2'⟩
          have hX0 := hE.size
          obtain ⟨r1, hr1⟩ : ∃ r1, r1 = (findF g k q (((fv ++ [(firstP g p, (Value.slice Aw (firstP g p).why.length cw))]) ++ news).map (·.1))).1 := ⟨_, rfl⟩
          rw [← hr1] at hen
          subst hen
          replace hL : Has w (.blk b12 (.cells #[.int .i64 q.1, .int .i64 q.2] 72 (0, 0)) :: .row wB.heap.size 72 2 (.slice A9 (onP g p).length c9) (onP g p).length ((onP g p).map cells2).flatten :: .row wB.heap.size 3 1 wv ys.length (ys.map (Value.int .i64)) :: .blk b8 (.cells #[.int .i64 p.1, .int .i64 p.2, wv] 37 (0, 0)) :: .blk b3 (.cells #[.int .i64 p.1, .int .i64 p.2] 72 (0, 0)) :: .blk xb (fxB Ag g.length cg lv2 mb) :: .blk mb (mapObj enc2 (Value.int .i64) mp2) :: .row wB.heap.size 37 3 lv2 ((fv ++ [(firstP g p, (Value.slice Aw (firstP g p).why.length cw))]) ++ news ++ news2).length (((fv ++ [(firstP g p, (Value.slice Aw (firstP g p).why.length cw))]) ++ news ++ news2).map fcell).flatten :: (news.map (fres 3 wB.heap.size) ++ news2.map (fres 3 wB.heap.size))) := Has.callX (A := [_, _, _, _, _]) (X := FX xb mb wB.heap.size Ag g.length cg lv' mp' ((fv ++ [(firstP g p, (Value.slice Aw (firstP g p).why.length cw))]) ++ news)) hL hX hL2 (fun b hb => FS.res hb) (fx_foot hnw2 hlv2')
          replace hE := hE.step hX (fun b hlt hs => hs.elim .inl fun h => h.elim (fun h => .inr (.inl h)) fun h => (hlv' b h).elim (fun h => .inr (.inr h)) (fun h => absurd hlt (Nat.not_lt.2 h)))
          have hK := hL.sub (.cons_cons _ (.cons_cons _ (.cons _ (.cons _ (.cons_cons _ (.cons _ (.cons _ (.cons _ (List.nil_sublist _)))))))))
          refine ⟨_, rfl, ⟨hK, hE⟩, ?_⟩
          refine h_new 5 rfl rfl (by kernel_rfl) rfl (n_slice (cells := #[.int .i64 r1]) rfl Tryd.underlying30 Tryd.sizeOf3 Tryd.zeroValue3 rfl rfl (fill_int1 _) hL hE) ?_
          rintro _ w ⟨s98, rfl, hs98, hL, hE, hX⟩
          have hK := hL.sub (.cons _ (.cons_cons _ (.cons_cons _ (.cons _ (.cons _ (.cons_cons _ (.cons _ (.cons _ (.cons _ (List.nil_sublist _))))))))))
          refine ⟨⟨hK, hE⟩, ?_⟩
          have hE99 := hE.size
          refine h_new 6 rfl rfl (by kernel_rfl) rfl (r_append_own (ys := [.int .i64 r1]) 3 rfl Tryd.underlying30 info_int rfl (by decide) rfl rfl hL hE rfl rfl (blk_raw (cs := #[.int .i64 r1]) (hL.get 0 rfl) rfl) (fun u hu => by rw [List.mem_singleton] at hu; rw [hu]; rfl) (by omega) (by omega) (fun b hb hlt => absurd hlt (Nat.not_lt.2 (hwv b hb))) (hXB hE).size) ?_
          rintro _ w ⟨hL, hE, hwv1, hwv2⟩
          obtain ⟨A4, c4, rfl⟩ := ownsRow_slice (hL.row 3 rfl)
          replace hL : Has w (.blk s98 (.cells #[.int .i64 r1] 3 (0, 0)) :: .blk b12 (.cells #[.int .i64 q.1, .int .i64 q.2] 72 (0, 0)) :: .row wB.heap.size 72 2 (.slice A9 (onP g p).length c9) (onP g p).length ((onP g p).map cells2).flatten :: .row wB.heap.size 3 1 (.slice A4 (ys.length + 1) c4) (ys ++ [r1]).length ((ys ++ [r1]).map (Value.int .i64)) :: .blk b8 (.cells #[.int .i64 p.1, .int .i64 p.2, wv] 37 (0, 0)) :: .blk b3 (.cells #[.int .i64 p.1, .int .i64 p.2] 72 (0, 0)) :: .blk xb (fxB Ag g.length cg lv2 mb) :: .blk mb (mapObj enc2 (Value.int .i64) mp2) :: .row wB.heap.size 37 3 lv2 ((fv ++ [(firstP g p, (Value.slice Aw (firstP g p).why.length cw))]) ++ (news ++ news2)).length (((fv ++ [(firstP g p, (Value.slice Aw (firstP g p).why.length cw))]) ++ (news ++ news2)).map fcell).flatten :: (news ++ news2).map (fres 3 wB.heap.size)) := by rw [← res_snoc, List.map_append (f := fres 3 wB.heap.size), ← List.append_assoc (fv ++ [(firstP g p, (Value.slice Aw (firstP g p).why.length cw))])]; exact hL
          have hK := hL.sub (.cons _ (.cons_cons _ (.cons_cons _ (.cons _ (.cons _ (.cons_cons _ (.cons _ (.cons _ (.cons _ (List.nil_sublist _))))))))))
          refine ⟨⟨hK, hE⟩, ?_⟩
          refine h_t 7 rfl rfl (by kernel_rfl) (fun _ _ _ h => h) ⟨hK, hE⟩ rfl (fun W hW => r_fieldAddr (n := 0) rfl Tryd.underlying37 rfl Tryd.sizeOf30 rfl) ?_
          refine h_new_do 8 rfl rfl (by kernel_rfl) rfl (r_store 4 rfl Tryd.sizeOf30 rfl hL hE rfl rfl rfl rfl (fun h => absurd h (Nat.not_lt.2 hb8))) ?_
          rintro w ⟨hL, hE, hz, hk⟩
          have hK := hL.sub (.cons _ (.cons_cons _ (.cons_cons _ (.cons _ (.cons _ (.cons_cons _ (.cons _ (.cons _ (.cons _ (List.nil_sublist _))))))))))
          refine ⟨⟨hK, hE⟩, ?_⟩
          refine h_done (by kernel_rfl) ?_
          refine ⟨by repeat (first | exact Agree.over _ _ _ | exact Agree.refl _ _ | (refine Agree.puto ?_ _ _ rfl) | (refine Agree.put ?_ _ _ rfl) | (refine Agree.sub ?_ rfl)), ?_⟩
          refine ⟨ws ++ [r1], ys ++ [r1], .slice A4 (ys.length + 1) c4, lv2, mp2, news ++ news2, ?_, by rw [hys, List.append_assoc], by rw [← List.append_assoc, ← hr2]; exact hmp2, fun b hb => (hwv2 b hb).elim (hwv b) (Nat.le_trans hE99), fun x hx b hb => (List.mem_append.1 hx).elim (fun h => hnw x h b hb) (fun h => Nat.le_trans hX0 (hnw2 x h b hb)), fun b hb => (hlv2' b hb).elim (hlv' b) (fun h => .inr (Nat.le_trans hX0 h)), hL.tail.tail, hE⟩
          rw [take_snoc hqn, findsF_snoc, hfn, hr1]
          exact Prod.ext rfl (hr2.trans (by rw [List.append_assoc]))
        · -- operation 4 first
          refine o_by 4 rfl rfl rfl rfl (r_call rfl rfl Tryd.func30 rfl rfl) (IH _ q ((fv ++ [(firstP g p, (Value.slice Aw (firstP g p).why.length cw))]) ++ news) mp' lv' (hXB hE) (hL.sub (.cons _ (.cons _ (.cons _ (.cons _ (.cons _ (.cons_cons _ (.cons_cons _ (.cons_cons _ (List.nil_sublist _))))))))) ) hgo hmapn hqi.1 hqi.2 (by omega)) ?_   -- fact.go:221 slot 97 := (call {callee=(value (func 30)), args=[(tmp 95), (tmp 96)], argTypes=[63, 72]})
          rintro _ w ⟨hen, lv2, mp2, news2, hr2, hmp2, hL2, hX, hnw2, hlv2'⟩
          have hX0 := hE.size
          obtain ⟨r1, hr1⟩ : ∃ r1, r1 = (findF g k q (((fv ++ [(firstP g p, (Value.slice Aw (firstP g p).why.length cw))]) ++ news).map (·.1))).1 := ⟨_, rfl⟩
          rw [← hr1] at hen
          subst hen
          replace hL : Has w (.blk b12 (.cells #[.int .i64 q.1, .int .i64 q.2] 72 (0, 0)) :: .row wB.heap.size 72 2 (.slice A9 (onP g p).length c9) (onP g p).length ((onP g p).map cells2).flatten :: .row wB.heap.size 3 1 wv ys.length (ys.map (Value.int .i64)) :: .blk b8 (.cells #[.int .i64 p.1, .int .i64 p.2, wv] 37 (0, 0)) :: .blk b3 (.cells #[.int .i64 p.1, .int .i64 p.2] 72 (0, 0)) :: .blk xb (fxB Ag g.length cg lv2 mb) :: .blk mb (mapObj enc2 (Value.int .i64) mp2) :: .row wB.heap.size 37 3 lv2 ((fv ++ [(firstP g p, (Value.slice Aw (firstP g p).why.length cw))]) ++ news ++ news2).length (((fv ++ [(firstP g p, (Value.slice Aw (firstP g p).why.length cw))]) ++ news ++ news2).map fcell).flatten :: (news.map (fres 3 wB.heap.size) ++ news2.map (fres 3 wB.heap.size))) := Has.callX (A := [_, _, _, _, _]) (X := FX xb mb wB.heap.size Ag g.length cg lv' mp' ((fv ++ [(firstP g p, (Value.slice Aw (firstP g p).why.length cw))]) ++ news)) hL hX hL2 (fun b hb => FS.res hb) (fx_foot hnw2 hlv2')
          replace hE := hE.step hX (fun b hlt hs => hs.elim .inl fun h => h.elim (fun h => .inr (.inl h)) fun h => (hlv' b h).elim (fun h => .inr (.inr h)) (fun h => absurd hlt (Nat.not_lt.2 h)))
          have hK := hL.sub (.cons_cons _ (.cons_cons _ (.cons _ (.cons _ (.cons_cons _ (.cons _ (.cons _ (.cons _ (List.nil_sublist _)))))))))
          refine ⟨_, rfl, ⟨hK, hE⟩, ?_⟩
          refine h_many [1, 5] (by kernel_rfl) ⟨?_, ?_, trivial⟩
          · -- operation 1 first
            refine o_val 1 rfl rfl rfl rfl (r_load_blk rfl Tryd.isAgg30 rfl (hL.get 3 rfl) rfl) ⟨hK, hE⟩ ?_
            refine h_new 5 rfl rfl (by kernel_rfl) rfl (n_slice (cells := #[.int .i64 r1]) rfl Tryd.underlying30 Tryd.sizeOf3 Tryd.zeroValue3 rfl rfl (fill_int1 _) hL hE) ?_
            rintro _ w ⟨s98, rfl, hs98, hL, hE, hX⟩
            have hK := hL.sub (.cons _ (.cons_cons _ (.cons_cons _ (.cons _ (.cons _ (.cons_cons _ (.cons _ (.cons _ (.cons _ (List.nil_sublist _))))))))))
            refine ⟨⟨hK, hE⟩, ?_⟩
            have hE99 := hE.size
            refine h_new 6 rfl rfl (by kernel_rfl) rfl (r_append_own (ys := [.int .i64 r1]) 3 rfl Tryd.underlying30 info_int rfl (by decide) rfl rfl hL hE rfl rfl (blk_raw (cs := #[.int .i64 r1]) (hL.get 0 rfl) rfl) (fun u hu => by rw [List.mem_singleton] at hu; rw [hu]; rfl) (by omega) (by omega) (fun b hb hlt => absurd hlt (Nat.not_lt.2 (hwv b hb))) (hXB hE).size) ?_
            rintro _ w ⟨hL, hE, hwv1, hwv2⟩
            obtain ⟨A4, c4, rfl⟩ := ownsRow_slice (hL.row 3 rfl)
            replace hL : Has w (.blk s98 (.cells #[.int .i64 r1] 3 (0, 0)) :: .blk b12 (.cells #[.int .i64 q.1, .int .i64 q.2] 72 (0, 0)) :: .row wB.heap.size 72 2 (.slice A9 (onP g p).length c9) (onP g p).length ((onP g p).map cells2).flatten :: .row wB.heap.size 3 1 (.slice A4 (ys.length + 1) c4) (ys ++ [r1]).length ((ys ++ [r1]).map (Value.int .i64)) :: .blk b8 (.cells #[.int .i64 p.1, .int .i64 p.2, wv] 37 (0, 0)) :: .blk b3 (.cells #[.int .i64 p.1, .int .i64 p.2] 72 (0, 0)) :: .blk xb (fxB Ag g.length cg lv2 mb) :: .blk mb (mapObj enc2 (Value.int .i64) mp2) :: .row wB.heap.size 37 3 lv2 ((fv ++ [(firstP g p, (Value.slice Aw (firstP g p).why.length cw))]) ++ (news ++ news2)).length (((fv ++ [(firstP g p, (Value.slice Aw (firstP g p).why.length cw))]) ++ (news ++ news2)).map fcell).flatten :: (news ++ news2).map (fres 3 wB.heap.size)) := by rw [← res_snoc, List.map_append (f := fres 3 wB.heap.size), ← List.append_assoc (fv ++ [(firstP g p, (Value.slice Aw (firstP g p).why.length cw))])]; exact hL
            have hK := hL.sub (.cons _ (.cons_cons _ (.cons_cons _ (.cons _ (.cons _ (.cons_cons _ (.cons _ (.cons _ (.cons _ (List.nil_sublist _))))))))))
            refine ⟨⟨hK, hE⟩, ?_⟩
            refine h_t 7 rfl rfl (by kernel_rfl) (fun _ _ _ h => h) ⟨hK, hE⟩ rfl (fun W hW => r_fieldAddr (n := 0) rfl Tryd.underlying37 rfl Tryd.sizeOf30 rfl) ?_
            refine h_new_do 8 rfl rfl (by kernel_rfl) rfl (r_store 4 rfl Tryd.sizeOf30 rfl hL hE rfl rfl rfl rfl (fun h => absurd h (Nat.not_lt.2 hb8))) ?_
            rintro w ⟨hL, hE, hz, hk⟩
            have hK := hL.sub (.cons _ (.cons_cons _ (.cons_cons _ (.cons _ (.cons _ (.cons_cons _ (.cons _ (.cons _ (.cons _ (List.nil_sublist _))))))))))
            refine ⟨⟨hK, hE⟩, ?_⟩
            refine h_done (by kernel_rfl) ?_
            refine ⟨by repeat (first | exact Agree.over _ _ _ | exact Agree.refl _ _ | (refine Agree.puto ?_ _ _ rfl) | (refine Agree.put ?_ _ _ rfl) | (refine Agree.sub ?_ rfl)), ?_⟩
            refine ⟨ws ++ [r1], ys ++ [r1], .slice A4 (ys.length + 1) c4, lv2, mp2, news ++ news2, ?_, by rw [hys, List.append_assoc], by rw [← List.append_assoc, ← hr2]; exact hmp2, fun b hb => (hwv2 b hb).elim (hwv b) (Nat.le_trans hE99), fun x hx b hb => (List.mem_append.1 hx).elim (fun h => hnw x h b hb) (fun h => Nat.le_trans hX0 (hnw2 x h b hb)), fun b hb => (hlv2' b hb).elim (hlv' b) (fun h => .inr (Nat.le_trans hX0 h)), hL.tail.tail, hE⟩
            rw [take_snoc hqn, findsF_snoc, hfn, hr1]
            exact Prod.ext rfl (hr2.trans (by rw [List.append_assoc]))
          · -- operation 5 first
            refine o_new 5 rfl rfl rfl rfl (n_slice (cells := #[.int .i64 r1]) rfl Tryd.underlying30 Tryd.sizeOf3 Tryd.zeroValue3 rfl rfl (fill_int1 _) hL hE) ?_
            rintro _ w ⟨s98, rfl, hs98, hL, hE, hX⟩
            have hK := hL.sub (.cons _ (.cons_cons _ (.cons_cons _ (.cons _ (.cons _ (.cons_cons _ (.cons _ (.cons _ (.cons _ (List.nil_sublist _))))))))))
            refine ⟨⟨hK, hE⟩, ?_⟩
            refine h_one 1 rfl rfl (by kernel_rfl) rfl (r_load_blk rfl Tryd.isAgg30 rfl (hL.get 4 rfl) rfl) ⟨hK, hE⟩ ?_
            have hE99 := hE.size
            refine h_new 6 rfl rfl (by kernel_rfl) rfl (r_append_own (ys := [.int .i64 r1]) 3 rfl Tryd.underlying30 info_int rfl (by decide) rfl rfl hL hE rfl rfl (blk_raw (cs := #[.int .i64 r1]) (hL.get 0 rfl) rfl) (fun u hu => by rw [List.mem_singleton] at hu; rw [hu]; rfl) (by omega) (by omega) (fun b hb hlt => absurd hlt (Nat.not_lt.2 (hwv b hb))) (hXB hE).size) ?_
            rintro _ w ⟨hL, hE, hwv1, hwv2⟩
            obtain ⟨A4, c4, rfl⟩ := ownsRow_slice (hL.row 3 rfl)
            replace hL : Has w (.blk s98 (.cells #[.int .i64 r1] 3 (0, 0)) :: .blk b12 (.cells #[.int .i64 q.1, .int .i64 q.2] 72 (0, 0)) :: .row wB.heap.size 72 2 (.slice A9 (onP g p).length c9) (onP g p).length ((onP g p).map cells2).flatten :: .row wB.heap.size 3 1 (.slice A4 (ys.length + 1) c4) (ys ++ [r1]).length ((ys ++ [r1]).map (Value.int .i64)) :: .blk b8 (.cells #[.int .i64 p.1, .int .i64 p.2, wv] 37 (0, 0)) :: .blk b3 (.cells #[.int .i64 p.1, .int .i64 p.2] 72 (0, 0)) :: .blk xb (fxB Ag g.length cg lv2 mb) :: .blk mb (mapObj enc2 (Value.int .i64) mp2) :: .row wB.heap.size 37 3 lv2 ((fv ++ [(firstP g p, (Value.slice Aw (firstP g p).why.length cw))]) ++ (news ++ news2)).length (((fv ++ [(firstP g p, (Value.slice Aw (firstP g p).why.length cw))]) ++ (news ++ news2)).map fcell).flatten :: (news ++ news2).map (fres 3 wB.heap.size)) := by rw [← res_snoc, List.map_append (f := fres 3 wB.heap.size), ← List.append_assoc (fv ++ [(firstP g p, (Value.slice Aw (firstP g p).why.length cw))])]; exact hL
            have hK := hL.sub (.cons _ (.cons_cons _ (.cons_cons _ (.cons _ (.cons _ (.cons_cons _ (.cons _ (.cons _ (.cons _ (List.nil_sublist _))))))))))
            refine ⟨⟨hK, hE⟩, ?_⟩
            refine h_t 7 rfl rfl (by kernel_rfl) (fun _ _ _ h => h) ⟨hK, hE⟩ rfl (fun W hW => r_fieldAddr (n := 0) rfl Tryd.underlying37 rfl Tryd.sizeOf30 rfl) ?_
            refine h_new_do 8 rfl rfl (by kernel_rfl) rfl (r_store 4 rfl Tryd.sizeOf30 rfl hL hE rfl rfl rfl rfl (fun h => absurd h (Nat.not_lt.2 hb8))) ?_
            rintro w ⟨hL, hE, hz, hk⟩
            have hK := hL.sub (.cons _ (.cons_cons _ (.cons_cons _ (.cons _ (.cons _ (.cons_cons _ (.cons _ (.cons _ (.cons _ (List.nil_sublist _))))))))))
            refine ⟨⟨hK, hE⟩, ?_⟩
            refine h_done (by kernel_rfl) ?_
            refine ⟨by repeat (first | exact Agree.over _ _ _ | exact Agree.refl _ _ | (refine Agree.puto ?_ _ _ rfl) | (refine Agree.put ?_ _ _ rfl) | (refine Agree.sub ?_ rfl)), ?_⟩
            refine ⟨ws ++ [r1], ys ++ [r1], .slice A4 (ys.length + 1) c4, lv2, mp2, news ++ news2, ?_, by rw [hys, List.append_assoc], by rw [← List.append_assoc, ← hr2]; exact hmp2, fun b hb => (hwv2 b hb).elim (hwv b) (Nat.le_trans hE99), fun x hx b hb => (List.mem_append.1 hx).elim (fun h => hnw x h b hb) (fun h => Nat.le_trans hX0 (hnw2 x h b hb)), fun b hb => (hlv2' b hb).elim (hlv' b) (fun h => .inr (Nat.le_trans hX0 h)), hL.tail.tail, hE⟩
            rw [take_snoc hqn, findsF_snoc, hfn, hr1]
            exact Prod.ext rfl (hr2.trans (by rw [List.append_assoc]))
      rintro e w hI
      obtain ⟨ws, ys, wv, lv', mp', news, hfn, hys, hmapn, hwv, hnw, hlv', hL, hE⟩ := hI
      -- region 17
      refine c_ops ?_
      refine l_val rfl rfl rfl (r_add rfl rfl rfl) ?_
      refine l_val rfl rfl rfl (r_move rfl) ?_
      refine l_nil ?_
      refine ⟨by repeat (first | exact Agree.over _ _ _ | exact Agree.refl _ _ | (refine Agree.puto ?_ _ _ rfl) | (refine Agree.put ?_ _ _ rfl) | (refine Agree.sub ?_ rfl)), ?_⟩
      exact ⟨(onP g p).length - (n + 1), by omega, n + 1, ws, ys, wv, lv', mp', news, by omega, rfl, by show Value.int .i64 (IntKind.i64.wrap ((n : Int) + 1)) = _; rw [wrap_succ hnn2 honm], hfn, hys, hmapn, hwv, hnw, hlv', hL, hE⟩
    · -- False
      have hr90 := hb
      replace hb := of_decide_eq_false hb
      replace hb : ¬ (n : Int) < ((onP g p).length : Int) := hb
      obtain rfl : n = (onP g p).length := by omega
      rw [List.take_length] at hfn
      subst hys
      have h1wv := one_row (hL.row 1 rfl)
      obtain ⟨gb, cap, rfl⟩ := row_pos (hL.row 6 rfl) (Nat.lt_of_le_of_lt (Nat.zero_le _) (fv_lt _ _ _))
      refine c_exit ?_
      refine c_seq ?_
      -- region 18
      refine c_draw mixed (hL.sub (.cons_cons _ (.cons_cons _ (.cons_cons _ (.cons_cons _ (.cons_cons _ (.cons_cons _ (.cons _ (.refl _))))))))) hE ?_
      replace hL := hL.drew
      replace hE := hE.drew
      have hK := hL.sub (.cons_cons _ (.cons_cons _ (.cons_cons _ (.cons_cons _ (.cons_cons _ (.cons_cons _ (.cons _ (.refl _))))))))
      refine h_t 0 rfl rfl (by kernel_rfl) (fun _ _ _ h => h) ⟨hK, hE⟩ rfl (fun W hW => r_move rfl) ?_
      refine h_t 1 rfl rfl (by kernel_rfl) (fun _ _ _ h => h) ⟨hK, hE⟩ rfl (fun W hW => r_nilCheck rfl rfl) ?_
      refine h_t 2 rfl rfl (by kernel_rfl) (fun _ _ _ h => h) ⟨hK, hE⟩ rfl (fun W hW => r_fieldAddr (n := 1) rfl Tryd.underlying68 rfl Tryd.sizeOf65 rfl) ?_
      refine h_t 3 rfl rfl (by kernel_rfl) (fun _ _ _ h => h) ⟨hK, hE⟩ rfl (fun W hW => r_fieldAddr (n := 0) rfl Tryd.underlying65 rfl Tryd.sizeOf29 rfl) ?_
      refine h_t 4 rfl rfl (by kernel_rfl) (fun _ _ _ h => h) ⟨hK, hE⟩ rfl (fun W hW => r_load_blk rfl Tryd.isAgg29 rfl (hW.1.get 4 rfl) rfl) ?_
      refine h_t 5 rfl rfl (by kernel_rfl) (fun _ _ _ h => h) ⟨hK, hE⟩ rfl (fun W hW => r_move rfl) ?_
      refine h_t 6 rfl rfl (by kernel_rfl) (fun _ _ _ h => h) ⟨hK, hE⟩ rfl (fun W hW => r_load_agg (vs := [.int .i64 p.1, .int .i64 p.2, wv]) rfl Tryd.isAgg37 Tryd.sizeOf37 rfl (blk_raw (cs := #[.int .i64 p.1, .int .i64 p.2, wv]) (hW.1.get 2 rfl) rfl)) ?_
      refine h_t 7 rfl rfl (by kernel_rfl) (fun _ _ _ h => h) ⟨hK, hE⟩ rfl (fun W hW => r_indexAddr_row rfl Tryd.underlying29 Tryd.sizeOf37 rfl rfl (fv_lt _ _ _)) ?_
      refine h_new_do 8 rfl rfl (by kernel_rfl) rfl (r_setRow (vs := [.int .i64 p.1, .int .i64 p.2, wv]) (k := fv.length) 6 rfl Tryd.sizeOf37 rfl rfl rfl (all3 h1wv) hL hE rfl (fv_lt _ _ _) (fun hlt => (hlv' _ rfl).elim (fun h => .inr (.inr h)) (fun h => absurd hlt (Nat.not_lt.2 h)))) ?_   -- fact.go:223 slot None := (store 37 (tmp 109) (tmp 108))
      rintro w ⟨hL, hE, hz, hk⟩
      have hK := hL.sub (.cons_cons _ (.cons_cons _ (.cons_cons _ (.cons_cons _ (.cons_cons _ (.cons_cons _ (.cons _ (.refl _))))))))
      refine ⟨⟨hK, hE⟩, ?_⟩
      refine h_done (by kernel_rfl) ?_
      refine c_seq ?_
      -- region 19
      refine c_ops ?_
      refine l_val rfl rfl rfl (r_move rfl) ?_
      refine l_val rfl rfl rfl (r_assign rfl) ?_
      refine l_nil ?_
      refine c_ret ?_
      have hset := fcells_set ((fv ++ [(firstP g p, (Value.slice Aw (firstP g p).why.length cw))]) ++ news) fv.length (doneP g p ws, wv) (fv_lt _ _ _)
      rw [fv_set] at hset
      replace hL : Has w (.row wB.heap.size 72 2 (.slice A9 (onP g p).length c9) (onP g p).length ((onP g p).map cells2).flatten :: .row wB.heap.size 3 1 wv ((firstP g p).why ++ ws).length (((firstP g p).why ++ ws).map (Value.int .i64)) :: .blk b8 (.cells #[.int .i64 p.1, .int .i64 p.2, wv] 37 (0, 0)) :: .blk b3 (.cells #[.int .i64 p.1, .int .i64 p.2] 72 (0, 0)) :: .blk xb (fxB Ag g.length cg (.slice (some ⟨gb, 0, none⟩) ((fv ++ [(firstP g p, (Value.slice Aw (firstP g p).why.length cw))]) ++ news).length cap) mb) :: .blk mb (mapObj enc2 (Value.int .i64) mp') :: .row wB.heap.size 37 3 (.slice (some ⟨gb, 0, none⟩) ((fv ++ [(firstP g p, (Value.slice Aw (firstP g p).why.length cw))]) ++ news).length cap) (fv ++ (doneP g p ws, wv) :: news).length ((fv ++ (doneP g p ws, wv) :: news).map fcell).flatten :: news.map (fres 3 wB.heap.size)) := by rw [← hset, show (fv ++ (doneP g p ws, wv) :: news).length = ((fv ++ [(firstP g p, (Value.slice Aw (firstP g p).why.length cw))]) ++ news).length from by simp]; exact hL
      refine ⟨rfl, _, mp', (doneP g p ws, wv) :: news, ?_, ?_, Has.perm ((List.perm_append_comm (l₁ := [_]) (l₂ := [_, _, _])).append_right _) (hL.sub (.cons _ (.cons_cons _ (.cons _ (.cons _ (.refl _)))))), hE, ?_, hlv'⟩
      · rw [hfn]; exact fv_set1 _ _ _ _ _ _
      · rw [hfn]; exact hmapn.congr (prs_set (by simp [prs, firstP, doneP]))
      · intro x hx b hb
        rcases List.mem_cons.1 hx with rfl | hx
        · exact hwv b hb
        · exact hnw x hx b hb
theorem find_calls (wB : World) (xb mb : Nat) (hxB : wB.heap.size ≤ xb) (hmB : wB.heap.size ≤ mb) (Ag : Option Addr) (cg : Nat) (g : List GNode) (hg : Nodes wB Ag cg g) (hok : GraphOk g) (hn : g.length ≤ 16) (hk0 : KeysLaid wB) : ∀ k, FindC wB xb mb Ag cg g k
  | 0 => fun w0 p fv mp lv hB hL hgood hmap hp hm hk => by
    have := hgood.le
    rw [List.length_map] at this
    omega
  | k + 1 => fun w0 p fv mp lv hB hL hgood hmap hp hm hk => by
    cases ha : atP p 0 (fv.map (·.1)) with
    | some i => exact find_some wB xb mb Ag cg g k w0 p fv mp lv i ha hL hmap
    | none => exact find_none wB xb mb hxB hmB Ag cg g hg hok hn hk0 k (find_calls wB xb mb hxB hmB Ag cg g hg hok hn hk0 k) w0 p fv mp lv hB ha hL hgood hmap hp hm hk
end Go.Proofs.YtndophlnapjkhaaDoor.Vc
