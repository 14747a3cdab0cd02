/- FactNeeded of the layer 'fact': for every graph, all pairs and any number the statement's function gives true, and its arguments read as they did. Conditions: the listed variable reads as its row says, which the card ties to the program's text. -/
import Derived.Test.YtndophlnapjkhaaDoorLaw7
import Derived.Test.YtndophlnapjkhaaDoorRow
import Derived.Test.YtndophlnapjkhaaDoorTie
import Derived.Test.YtndophlnapjkhaaDoorCards
import Derived.SevenTiedAt
namespace Go.Proofs.YtndophlnapjkhaaDoor.Vc
open Go Go.RowKit Go.ChangeShapes Go.WideShapes
set_option maxRecDepth 100000
theorem needed_lifted (os : Os) (started : os.Started) (H : Type) (enc : TypeId × Value → H) :
    ReturnsInHanded {} Tryd.checked os 4 .any (fun w args => (Rows.factNeededSpec.pre enc Tryd.prog Tryd.f4 [] false w args ∧ laidMetH Tryd.prog laidRow w) ∧ sizedMet enc Tryd.prog Tryd.f4 (OpenSpec.ofChange Rows.factNeededSpec) false w args)
      (Rows.factNeededSpec.post enc Tryd.prog Tryd.f4 false true false false) := by
  refine returnsInHanded_of_change_and (C := Tryd.checked) (X := fun w _ => laidMetH Tryd.prog laidRow w) (fun _ _ _ hh h => h.of_heap hh) own started (by kernel_rfl) Tryd.func4
    (ChangeSpec.witness_shaped (enc := enc) (C := Tryd.checked) (os := os) (X := fun w _ => laidMetH Tryd.prog laidRow w) false (World.laidAll Tryd.prog os laidRow) #[.slice none 0 0, .slice none 0 0, .int .i64 0] 8 (World.laidAll_os _ _ _) (World.shaped_of_ZipB (by kernel_rfl) (by kernel_rfl)) (by kernel_rfl) (by kernel_rfl) (by kernel_rfl) (by
      rw [MakeChecks.laidMetH_plain _ _ _ (by kernel_rfl)]
      exact laidMet_laidAll _ (by kernel_rfl) (by kernel_rfl))) ?_
  intro W base args ds gs before hval0 hW _ _ hL _
  have hval : ∀ (j : Nat) t v, Tryd.f4.params[j]? = some t → args[j]? = some v → Value.okWide Tryd.prog W .any base t v := hval0
  have hW' := hW
  obtain ⟨p, q, hA0, hV, hbf, hfz, hnd⟩ := hW
  have hA : DataW.TrodAll enc Tryd.prog W 0 (fun _ => true) true Tryd.f4.params.toList args.toList ds p := hA0
  rw [Tryd.params4] at hA hval
  obtain ⟨rfl, rfl⟩ := trodVars_none hV
  rw [List.append_nil] at hbf
  subst hbf
  obtain ⟨v0, v1, v2, d0, d1, d2, p0, p1, p2, rfl, rfl, hp, h0, h1, h2⟩ := trodAll_three hA
  obtain ⟨A, c, g, rfl, hg⟩ := nodes_of (okWide_slice Tryd.underlying22 (hval 0 _ _ rfl rfl)) h0
  obtain ⟨Ap, cp, l, rfl, hl⟩ := pairs_of (okWide_slice Tryd.underlying23 (hval 1 _ _ rfl rfl)) h1
  obtain ⟨x0, rfl⟩ := okWide_int Tryd.underlying3 (hval 2 _ _ rfl rfl)
  have hlt := hW'.lt
  have hAk := hA
  refine (Needed_calls W (keys_of_laid hL) A c g hg Ap cp l hl x0).mono fun e W' ⟨he, hE⟩ => ?_
  subst he
  exact ⟨_, rfl, post_of_ext hW' (fun _ _ _ => trodAll_mk1 (shut_bool Tryd.underlying4 true)) (fun sp hsp => by
    rw [Tryd.params4]
    exact trodAll_ext hE hlt (DataW.TrodAll.respare kids full (by decide +kernel) hAk hsp)) (fun _ => rfl) hE (ok_one (by kernel_rfl) rfl (okWide_bool_mk Tryd.underlying4 _))⟩
theorem needed_said : Rows.FactNeededSaid :=
  OpenClaim.holds_of_wide 4 Tryd.f4 rfl rfl rfl rfl rfl rfl rfl ⟨rfl, rfl, rfl, rfl, rfl⟩ rfl rfl rfl rfl rfl (by kernel_rfl) Tryd.func4 (by kernel_rfl)
    (of_decide_eq_true (by kernel_rfl)) (by unfold Func.isWrapper; first | (rw [if_pos (by decide +kernel)]; kernel_rfl) | (rw [if_neg (by decide +kernel)]; exact ⟨rfl, rfl⟩))
    (fun os started H enc _ => needed_lifted os started H enc)
end Go.Proofs.YtndophlnapjkhaaDoor.Vc
namespace Go.Proofs.YtndophlnapjkhaaDoor
open Go
set_option maxRecDepth 100000
theorem factNeeded_card : Rows.FactNeededCardSaid :=
  Claim7.holds_tied_plain_at .later [] [.data] true (true, "42531a8e7f3a0ff0f52780fae766584b5a638af6943db5ec212865166759808e") false
    Vc.needed_said (fun _ h => by cases h) (by kernel_rfl) (fun _ h => by cases h) factNeeded_row_tie rfl ⟨rfl, rfl⟩ (by kernel_rfl) rfl
    (fun f fn hf hfn => by
      obtain rfl : f = 4 := Option.some.inj ((show Tryd.prog.funcNamed "armillary/armillarylaw12.FactNeeded" = some 4 by kernel_rfl).symm.trans hf) |>.symm
      obtain rfl : fn = Tryd.f4 := (Option.some.inj (Tryd.func4.symm.trans hfn)).symm
      exact ⟨by kernel_rfl, fun j t ht => by
        rw [Tryd.params4] at ht
        match j, ht with
        | 0, ht =>
          obtain rfl : t = 22 := by simpa using ht.symm
          exact (show Tryd.prog.wantsStandIn 22 = false by kernel_rfl)
        | 1, ht =>
          obtain rfl : t = 23 := by simpa using ht.symm
          exact (show Tryd.prog.wantsStandIn 23 = false by kernel_rfl)
        | 2, ht =>
          obtain rfl : t = 3 := by simpa using ht.symm
          exact (show Tryd.prog.wantsStandIn 3 = false by kernel_rfl)
        | j + 3, ht => simp at ht⟩)
    (by kernel_rfl)
#print axioms factNeeded_card
end Go.Proofs.YtndophlnapjkhaaDoor
