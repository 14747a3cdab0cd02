/- From a row's reading of arguments and of the listed variable to what the walks ask for, and back: by laws of this seat's program. Conditions: those of each statement. -/
import Derived.Test.YtndophlnapjkhaaDoorLaw1
import Derived.Test.YtndophlnapjkhaaDoorRows
import Derived.ChangeSame
import Derived.ChangeVars
import Derived.ProofKit
import Derived.LaidMore
import Derived.OpenShut
import Derived.Stop.Joined
import Derived.Deep.Slices
import Derived.LaidLaws
import Derived.Lay
import Derived.ReadAgain
namespace Go.Proofs.YtndophlnapjkhaaDoor.Vc
open Go Go.RowKit Go.ChangeShapes Go.WideShapes Go.Deep
set_option linter.unusedVariables false
set_option maxRecDepth 100000
set_option linter.unusedSimpArgs false
section
variable {H : Type} {enc : TypeId × Value → H} {w : World} {base : Nat} {spare : Nat → Bool} {held : Bool}
theorem sl_of_trod {P : Program} {α : Type} [Inhabited α] {R : World → α → List Value → Prop} {t e : TypeId} {sz fuel : Nat} {cs : List Value} {x : DataW H × List MemPlace} (ht : P.underlying t = some (.slice e)) (hc : P.cellsOf e = sz)
    (he : ∀ n cs x, DataW.trod enc P w base spare held n e cs = some x → ∃ y : α, R w y cs) (h : DataW.trod enc P w base spare held fuel t cs = some x) : ∃ A len cap xs, cs = [.slice A len cap] ∧ Sl w sz R A len cap (xs : List α) := by
  rcases open_slice ht h with ⟨rfl, _⟩ | ⟨a, len, cap, m, n, D, Pl, rfl, hb, hl, hm, hmm, _, hx⟩
  · exact ⟨none, 0, 0, [], rfl, Sl.nil _ _ _ _ _⟩
  · have hlm : len ≤ m := by rw [hmm]; split <;> omega
    have each : ∀ i, i < len → ∃ y : α, ∃ cs', cs'.length = sz ∧ R w y cs' ∧ ∀ j v, cs'[j]? = some v → w.cell? (a.add (i * sz + j)) = some v := fun i hi => by
      obtain ⟨cs', h1, h2⟩ := hx i (by omega)
      obtain ⟨y, hy⟩ := he _ _ _ h2
      obtain ⟨_, hlen, hcell⟩ := World.cells?_some h1
      rw [hc] at hlen hcell
      refine ⟨y, cs', hlen, hy, fun j v hj => ?_⟩
      have hjl := (List.getElem?_eq_some_iff.1 hj).1
      have := hcell j (by omega)
      rw [adr_add, hj] at this
      exact this
    obtain ⟨q, hq⟩ := choose_lt each
    refine ⟨some a, len, cap, (List.range len).map q, rfl, ⟨by simp, hl, by simp only [maxLen] at hm; omega, fun _ => rfl, fun i y hy => ?_⟩⟩
    rw [List.getElem?_map, Option.map_eq_some_iff] at hy
    obtain ⟨i', hi', rfl⟩ := hy
    have hil := (List.getElem?_eq_some_iff.1 hi').1
    have he' : i' = i := by
      have := (List.getElem?_eq_some_iff.1 hi').2
      simpa using this.symm
    subst he'
    obtain ⟨cs', h1, h2, h3⟩ := hq i' (by simpa using hil)
    exact ⟨cs', h1, h2, h3⟩
theorem int_of_trod (n : Nat) (cs : List Value) (x : DataW H × List MemPlace) (h : DataW.trod enc Tryd.prog w base spare held n 3 cs = some x) : ∃ y : Int, RInt w y cs := by
  obtain ⟨k, rfl, _⟩ := DataW.trod_int Tryd.underlying3 h
  exact ⟨k, rfl⟩
theorem str_of_trod (n : Nat) (cs : List Value) (x : DataW H × List MemPlace) (h : DataW.trod enc Tryd.prog w base spare held n 9 cs = some x) : ∃ y : ByteArray, RStr w y cs := by
  obtain ⟨k, rfl, _⟩ := DataW.trod_string Tryd.underlying9 h
  exact ⟨k, rfl⟩
theorem pair_of_trod (n : Nat) (cs : List Value) (x : DataW H × List MemPlace) (h : DataW.trod enc Tryd.prog w base spare held n 28 cs = some x) : ∃ y : Int × Int, RPair w y cs := by
  obtain ⟨xs, m, _, _, hlen, hxl, hel⟩ := DataW.trod_array Tryd.underlying28 h
  have c1 : Tryd.prog.cellsOf 3 = 1 := by kernel_rfl
  have c2 : Tryd.prog.cellsOf 28 = 2 := by kernel_rfl
  rw [c2] at hlen
  match cs, hlen, xs, hxl with
  | [v0, v1], _, [x0, x1], _ =>
    have h0 := hel 0 (by decide)
    have h1 := hel 1 (by decide)
    simp [c1] at h0 h1
    obtain ⟨a, e0, _⟩ := DataW.trod_int Tryd.underlying3 h0
    obtain ⟨b, e1, _⟩ := DataW.trod_int Tryd.underlying3 h1
    simp at e0 e1
    subst e0; subst e1
    exact ⟨(a, b), rfl⟩
instance : Inhabited GNode := ⟨GNode.nil⟩
theorem node_of_trod (n : Nat) (cs : List Value) (x : DataW H × List MemPlace) (h : DataW.trod enc Tryd.prog w base spare held n 45 cs = some x) : ∃ y : GNode, RNode w y cs := by
  obtain ⟨xs, m, _, _, hlen, hxl, hel⟩ := DataW.trod_struct Tryd.underlying45 h
  have c1 : Tryd.prog.cellsOf 3 = 1 := by kernel_rfl
  have c2 : Tryd.prog.cellsOf 9 = 1 := by kernel_rfl
  have c3 : Tryd.prog.cellsOf 43 = 1 := by kernel_rfl
  have c4 : Tryd.prog.cellsOf 30 = 1 := by kernel_rfl
  have c5 : Tryd.prog.cellsOf 45 = 5 := by kernel_rfl
  rw [c5] at hlen
  match cs, hlen, xs, hxl with
  | [v0, v1, v2, v3, v4], _, [x0, x1, x2, x3, x4], _ =>
    have h0 := hel 0 _ rfl
    have h1 := hel 1 _ rfl
    have h2 := hel 2 _ rfl
    have h3 := hel 3 _ rfl
    have h4 := hel 4 _ rfl
    simp [c1, c2, c3, c4] at h0 h1 h2 h3 h4
    obtain ⟨a, e0, _⟩ := DataW.trod_int Tryd.underlying3 h0
    obtain ⟨b, e1, _⟩ := DataW.trod_int Tryd.underlying3 h1
    obtain ⟨s, e2, _⟩ := DataW.trod_string Tryd.underlying9 h2
    obtain ⟨Ak, nk, ck, ks, e3, hk⟩ := sl_of_trod Tryd.underlying43 c2 str_of_trod h3
    obtain ⟨Al, nl, cl, l, e4, hl⟩ := sl_of_trod Tryd.underlying30 c1 int_of_trod h4
    simp at e0 e1 e2 e3 e4
    subst e0; subst e1; subst e2; subst e3; subst e4
    refine ⟨⟨a, b, s, ks, l⟩, Ak, ck, Al, cl, ?_, ?_, ?_⟩
    · simp [nodeCells, hk.len, hl.len]
    · rw [hk.len]; exact hk
    · rw [hl.len]; exact hl
theorem nodes_of {v : Value} {d : DataW H} {ps : List MemPlace} (hv : ∃ a len cap, v = .slice a len cap) (h : DataW.Trod enc Tryd.prog w base spare held 22 v d ps) : ∃ A c g, v = .slice A (List.length g) c ∧ Nodes w A c g := by
  obtain ⟨a, len, cap, rfl⟩ := hv
  obtain ⟨fuel, hf⟩ := h
  obtain ⟨A, n, c, g, e, hs⟩ := sl_of_trod Tryd.underlying22 (by kernel_rfl : Tryd.prog.cellsOf 45 = 5) node_of_trod hf
  have e' : Value.slice a len cap = .slice A n c := by simpa [Value.cells] using e
  refine ⟨A, c, g, by rw [e', hs.len], ?_⟩
  unfold Nodes
  rw [hs.len]
  exact hs
theorem pairs_of {v : Value} {d : DataW H} {ps : List MemPlace} (hv : ∃ a len cap, v = .slice a len cap) (h : DataW.Trod enc Tryd.prog w base spare held 23 v d ps) : ∃ A c l, v = .slice A (List.length l) c ∧ PairsAt w A c l := by
  obtain ⟨a, len, cap, rfl⟩ := hv
  obtain ⟨fuel, hf⟩ := h
  obtain ⟨A, n, c, g, e, hs⟩ := sl_of_trod Tryd.underlying23 (by kernel_rfl : Tryd.prog.cellsOf 28 = 2) pair_of_trod hf
  have e' : Value.slice a len cap = .slice A n c := by simpa [Value.cells] using e
  refine ⟨A, c, g, by rw [e', hs.len], ?_⟩
  unfold PairsAt
  rw [hs.len]
  exact hs
theorem trod_ext {P : Program} {W W' : World} (h : Ext0 W W') {t : TypeId} {v : Value} {d : DataW H} {ps : List MemPlace} (hlt : ∀ p ∈ ps, p.block < W.heap.size) (hd : DataW.Trod enc P W base spare held t v d ps) : DataW.Trod enc P W' base spare held t v d ps := by
  obtain ⟨fuel, hf⟩ := hd
  exact ⟨fuel, DataW.trod_carry fuel t _ _ hf (fun p hp => h.below0.same (hlt p hp))⟩
theorem trodAll_ext {P : Program} {W W' : World} (h : Ext0 W W') : ∀ {ts : List TypeId} {vs : List Value} {ds : List (DataW H)} {ps : List MemPlace}, (∀ p ∈ ps, p.block < W.heap.size) → DataW.TrodAll enc P W base spare held ts vs ds ps → DataW.TrodAll enc P W' base spare held ts vs ds ps
  | [], [], [], _, _, hd => hd
  | _ :: _, _ :: _, _ :: _, _, hlt, hd => by
    obtain ⟨p, q, h1, h2, rfl⟩ := hd
    exact ⟨p, q, trod_ext h (fun x hx => hlt x (List.mem_append_left _ hx)) h1, trodAll_ext h (fun x hx => hlt x (List.mem_append_right _ hx)) h2, rfl⟩
end
theorem kids : Kids Tryd.prog (· < Tryd.prog.types.size) := kids_rows (by kernel_rfl) (by kernel_rfl)
theorem full : ∀ t e, t < Tryd.prog.types.size → Tryd.prog.underlying t = some (.slice e) → 0 < Tryd.prog.cellsOf e := slices_full_of Tryd.prog (by kernel_rfl)
theorem own : ownKnob Tryd.prog.godebug = none := by kernel_rfl
theorem gKeys : Tryd.prog.globalNamed "armillary/lex.keys" = some 0 := by kernel_rfl
theorem tKeys : (Tryd.prog.globals[0]?).map (·.type) = some 109 := by kernel_rfl
noncomputable abbrev laidRow : List (String × DataW Unit) := [("armillary/lex.keys", Rows.laid_armillary_lex_keys)]
theorem laid_is : (Rows.laid_armillary_lex_keys : DataW Unit) = .agg (keysL.map fun s => .lit (.string s.data.toList)) := by kernel_rfl
theorem keys_of_laid {W : World} (h : laidMetH Tryd.prog laidRow W) : KeysLaid W := by
  rw [MakeChecks.laidMetH_plain _ _ _ (by kernel_rfl)] at h
  obtain ⟨ps, ⟨g0, t0, cs0, f0, p0, q0, hg0, ht0, hv0, hd0, _, _⟩, _, _⟩ := h
  obtain rfl := Option.some.inj (gKeys.symm.trans hg0)
  obtain rfl := Option.some.inj (tKeys.symm.trans ht0)
  obtain ⟨xs, m1, rfl, hx1, hlen, hn, hel⟩ := DataW.trod_array Tryd.underlying109 hd0
  have c1 : Tryd.prog.cellsOf 9 = 1 := by kernel_rfl
  simp only [Prod.mk.injEq] at hx1
  have hxs : xs.map (·.1) = keysL.map fun s => DataW.lit (.string s.data.toList) := by
    have := hx1.1
    rw [laid_is] at this
    injection this with this
    exact this.symm
  intro i s hs
  have hk18 : keysL.length = 18 := by decide
  have hi : i < 18 := by have := (List.getElem?_eq_some_iff.1 hs).1; omega
  have h0 := hel i hi
  rw [c1, Nat.mul_one] at h0
  have hxi : xs[i]? = some (xs[i]'(by omega)) := List.getElem?_eq_getElem (by omega)
  rw [hxi] at h0
  obtain ⟨s', e1, e2, _⟩ := DataW.trod_string Tryd.underlying9 h0
  have h2 : (xs.map (·.1))[i]? = some (xs[i]'(by omega)).1 := by rw [List.getElem?_map, hxi]; rfl
  rw [hxs, List.getElem?_map, hs, e2] at h2
  have h3 : s.data.toList = s'.data.toList := by simpa using h2
  have h4 : s = s' := ByteArray.ext (Array.toList_inj.1 h3)
  subst h4
  have hv := World.var?_cell hg0 hv0 i
  rw [hv]
  have h5 : ((cs0.toList.drop i).take 1)[0]? = some (.string s) := by rw [e1]; rfl
  rw [List.getElem?_take, if_pos (by decide), List.getElem?_drop, Nat.add_zero] at h5
  simpa using h5
/-- What a row asks behind the call, where the world has but grown and the arguments read as they did. -/
theorem post_of_ext {H : Type} {enc : TypeId × Value → H} {P : Program} {f : Func} {s : ChangeSpec} {apart fresh handsOn again : Bool} {W W' : World} {args : Array Value} {v : Value} {ds gs : List (DataW H)} {before : List MemPlace}
    (hW : DataW.Whole enc P f.params.toList s.vars apart W args.toList ds gs before)
    (hres : ∀ (b : Nat) (sp : Nat → Bool) (hd : Bool), DataW.TrodAll enc P W' b sp hd f.resultTypes.toList (v.resultList f.resultTypes.size) (s.fn H (ds ++ gs)).results [])
    (hargs : ∀ sp : Nat → Bool, (∀ p ∈ before, sp p.block = true) → DataW.TrodAll enc P W' 0 sp true f.params.toList args.toList (s.fn H (ds ++ gs)).args before)
    (hvars : ∀ sp : Nat → Bool, DataW.TrodVars enc P W' sp s.vars (s.fn H (ds ++ gs)).vars [])
    (hE : Ext0 W W')
    (hok : ∀ (j : Nat) (t : TypeId) (r : Value), f.resultTypes[j]? = some t → (v.resultList f.resultTypes.size)[j]? = some r → Value.okWide P W' .any 0 t r) :
    s.post enc P f apart fresh handsOn again W args v W' := by
  have hold : ∀ p ∈ before, (fun b => decide (b < W.heap.size)) p.block = true := fun p hp => by simpa using hW.lt p hp
  refine ⟨ds, gs, before, [], before, [], hW, hres _ _ _, hargs _ hold, hvars _, hE.below0.frame _, fun _ => ?_⟩
  have hlt := hW.lt
  obtain ⟨_, _, _, _, _, hz, hn⟩ := hW
  refine ⟨hok, _, _, ([] ++ before) ++ [], ⟨[] ++ before, [], trodAll_append (hargs _ (fun _ _ => rfl)) (hres _ _ _), hvars _, rfl, ?_, ?_⟩, ?_⟩
  · intro b off hp
    have hp' : MemPlace.cell b off ∈ before := by simpa using hp
    rw [World.frozen?_of_block (w := W) (hE.block b (hlt _ hp') (fun h => h))]
    exact hz b off hp'
  · intro ha
    simpa using hn ha
  · intro p hp _
    simpa using hp
end Go.Proofs.YtndophlnapjkhaaDoor.Vc
