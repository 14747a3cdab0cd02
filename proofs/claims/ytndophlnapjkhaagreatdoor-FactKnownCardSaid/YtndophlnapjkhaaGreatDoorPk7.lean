/- Laws and walks for what the last text proves, part 7: FactKnown of the layer 'fact'. Conditions: those of each statement. -/
import Derived.Test.YtndophlnapjkhaaGreatDoorRows
import Derived.ChangeSame
import Derived.ChangeVars
import Derived.ProofKit
import Derived.LaidMore
import Derived.OpenShut
import Derived.Stop.Joined
import Derived.Deep.Slices
import Derived.LaidLaws
import Derived.Lay
import Derived.ReadAgain
import Derived.Test.YtndophlnapjkhaaGreatDoorPk6
set_option linter.unusedVariables false
set_option linter.unusedSimpArgs false
set_option linter.unusedSectionVars false
namespace Go.Proofs.YtndophlnapjkhaaGreatDoor.Vc
open Go Go.RowKit Go.ChangeShapes Go.WideShapes Go.Deep
set_option linter.unusedVariables false
set_option maxRecDepth 100000
set_option linter.unusedSimpArgs false
section
variable {H : Type} {enc : TypeId × Value → H} {w : World} {base : Nat} {spare : Nat → Bool} {held : Bool}
instance : Inhabited GNode := ⟨GNode.nil⟩
theorem trod_ext {P : Program} {W W' : World} (h : Ext0 W W') {t : TypeId} {v : Value} {d : DataW H} {ps : List MemPlace} (hlt : ∀ p ∈ ps, p.block < W.heap.size) (hd : DataW.Trod enc P W base spare held t v d ps) : DataW.Trod enc P W' base spare held t v d ps := by
 obtain ⟨fuel, hf⟩ := hd
 exact ⟨fuel, DataW.trod_carry fuel t _ _ hf (fun p hp => h.below0.same (hlt p hp))⟩
theorem trodAll_ext {P : Program} {W W' : World} (h : Ext0 W W') : ∀ {ts : List TypeId} {vs : List Value} {ds : List (DataW H)} {ps : List MemPlace}, (∀ p ∈ ps, p.block < W.heap.size) → DataW.TrodAll enc P W base spare held ts vs ds ps → DataW.TrodAll enc P W' base spare held ts vs ds ps
 | [], [], [], _, _, hd => hd
 | _ :: _, _ :: _, _ :: _, _, hlt, hd => by
  obtain ⟨p, q, h1, h2, rfl⟩ := hd
  exact ⟨p, q, trod_ext h (fun x hx => hlt x (List.mem_append_left _ hx)) h1, trodAll_ext h (fun x hx => hlt x (List.mem_append_right _ hx)) h2, rfl⟩
end
theorem kids : Kids Tryz.prog (· < Tryz.prog.types.size) := kids_rows (by kernel_rfl) (by kernel_rfl)
theorem full : ∀ t e, t < Tryz.prog.types.size → Tryz.prog.underlying t = some (.slice e) → 0 < Tryz.prog.cellsOf e := slices_full_of Tryz.prog (by kernel_rfl)
theorem own : ownKnob Tryz.prog.godebug = none := by kernel_rfl
theorem gKeys : Tryz.prog.globalNamed "armillary/lex.keys" = some 0 := by kernel_rfl
theorem tKeys : (Tryz.prog.globals[0]?).map (·.type) = some 120 := by kernel_rfl
noncomputable abbrev laidRow : List (String × DataW Unit) := [("armillary/lex.keys", Rows.laid_armillary_lex_keys)]
theorem laid_is : (Rows.laid_armillary_lex_keys : DataW Unit) = .agg (keysL.map fun s => .lit (.string s.data.toList)) := by kernel_rfl
theorem keys_of_laid {W : World} (h : laidMetH Tryz.prog laidRow W) : KeysLaid W := by
 rw [MakeChecks.laidMetH_plain _ _ _ (by kernel_rfl)] at h
 obtain ⟨ps, ⟨g0, t0, cs0, f0, p0, q0, hg0, ht0, hv0, hd0, _, _⟩, _, _⟩ := h
 obtain rfl := Option.some.inj (gKeys.symm.trans hg0)
 obtain rfl := Option.some.inj (tKeys.symm.trans ht0)
 obtain ⟨xs, m1, rfl, hx1, hlen, hn, hel⟩ := DataW.trod_array Tryz.underlying120 hd0
 have c1 : Tryz.prog.cellsOf 9 = 1 := by kernel_rfl
 simp only [Prod.mk.injEq] at hx1
 have hxs : xs.map (·.1) = keysL.map fun s => DataW.lit (.string s.data.toList) := by
  have := hx1.1
  rw [laid_is] at this
  injection this with this
  exact this.symm
 intro i s hs
 have hk18 : keysL.length = 18 := by decide
 have hi : i < 18 := by have := (List.getElem?_eq_some_iff.1 hs).1; omega
 have h0 := hel i hi
 rw [c1, Nat.mul_one] at h0
 have hxi : xs[i]? = some (xs[i]'(by omega)) := List.getElem?_eq_getElem (by omega)
 rw [hxi] at h0
 obtain ⟨s', e1, e2, _⟩ := DataW.trod_string Tryz.underlying9 h0
 have h2 : (xs.map (·.1))[i]? = some (xs[i]'(by omega)).1 := by rw [List.getElem?_map, hxi]; rfl
 rw [hxs, List.getElem?_map, hs, e2] at h2
 have h3 : s.data.toList = s'.data.toList := by simpa using h2
 have h4 : s = s' := ByteArray.ext (Array.toList_inj.1 h3)
 subst h4
 have hv := World.var?_cell hg0 hv0 i
 rw [hv]
 have h5 : ((cs0.toList.drop i).take 1)[0]? = some (.string s) := by rw [e1]; rfl
 rw [List.getElem?_take, if_pos (by decide), List.getElem?_drop, Nat.add_zero] at h5
 simpa using h5
theorem post_of_ext {H : Type} {enc : TypeId × Value → H} {P : Program} {f : Func} {s : ChangeSpec} {apart fresh handsOn again : Bool} {W W' : World} {args : Array Value} {v : Value} {ds gs : List (DataW H)} {before : List MemPlace}
    (hW : DataW.Whole enc P f.params.toList s.vars apart W args.toList ds gs before)
    (hres : ∀ (b : Nat) (sp : Nat → Bool) (hd : Bool), DataW.TrodAll enc P W' b sp hd f.resultTypes.toList (v.resultList f.resultTypes.size) (s.fn H (ds ++ gs)).results [])
    (hargs : ∀ sp : Nat → Bool, (∀ p ∈ before, sp p.block = true) → DataW.TrodAll enc P W' 0 sp true f.params.toList args.toList (s.fn H (ds ++ gs)).args before)
    (hvars : ∀ sp : Nat → Bool, DataW.TrodVars enc P W' sp s.vars (s.fn H (ds ++ gs)).vars [])
    (hE : Ext0 W W')
    (hok : ∀ (j : Nat) (t : TypeId) (r : Value), f.resultTypes[j]? = some t → (v.resultList f.resultTypes.size)[j]? = some r → Value.okWide P W' .any 0 t r) :
    s.post enc P f apart fresh handsOn again W args v W' := by
 have hold : ∀ p ∈ before, (fun b => decide (b < W.heap.size)) p.block = true := fun p hp => by simpa using hW.lt p hp
 refine ⟨ds, gs, before, [], before, [], hW, hres _ _ _, hargs _ hold, hvars _, hE.below0.frame _, fun _ => ?_⟩
 have hlt := hW.lt
 obtain ⟨_, _, _, _, _, hz, hn⟩ := hW
 refine ⟨hok, _, _, ([] ++ before) ++ [], ⟨[] ++ before, [], trodAll_append (hargs _ (fun _ _ => rfl)) (hres _ _ _), hvars _, rfl, ?_, ?_⟩, ?_⟩
 ·intro b off hp
  have hp' : MemPlace.cell b off ∈ before := by simpa using hp
  rw [World.frozen?_of_block (w := W) (hE.block b (hlt _ hp') (fun h => h))]
  exact hz b off hp'
 ·intro ha
  simpa using hn ha
 ·intro p hp _
  simpa using hp
end Go.Proofs.YtndophlnapjkhaaGreatDoor.Vc
