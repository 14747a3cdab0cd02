/- FactCasts of the layer 'fact': for every graph and all pairs the statement's function gives true, and its arguments read as they did. Conditions: the listed variable reads as its row says, which the card ties to the program's text. -/
import Derived.Test.YtndophlnapjkhaaDoorLaw5
import Derived.Test.YtndophlnapjkhaaDoorRow
import Derived.Test.YtndophlnapjkhaaDoorTie
import Derived.Test.YtndophlnapjkhaaDoorCards
import Derived.SevenTiedAt
namespace Go.Proofs.YtndophlnapjkhaaDoor.Vc
open Go Go.RowKit Go.ChangeShapes Go.WideShapes
set_option maxRecDepth 100000
theorem casts_lifted (os : Os) (started : os.Started) (H : Type) (enc : TypeId × Value → H) :
    ReturnsInHanded {} Tryd.checked os 5 .any (fun w args => (Rows.factCastsSpec.pre enc Tryd.prog Tryd.f5 [] false w args ∧ laidMetH Tryd.prog laidRow w) ∧ sizedMet enc Tryd.prog Tryd.f5 (OpenSpec.ofChange Rows.factCastsSpec) false w args)
      (Rows.factCastsSpec.post enc Tryd.prog Tryd.f5 false true false false) := by
  refine returnsInHanded_of_change_and (C := Tryd.checked) (X := fun w _ => laidMetH Tryd.prog laidRow w) (fun _ _ _ hh h => h.of_heap hh) own started (by kernel_rfl) Tryd.func5
    (ChangeSpec.witness_shaped (enc := enc) (C := Tryd.checked) (os := os) (X := fun w _ => laidMetH Tryd.prog laidRow w) false (World.laidAll Tryd.prog os laidRow) #[.slice none 0 0, .slice none 0 0] 8 (World.laidAll_os _ _ _) (World.shaped_of_ZipB (by kernel_rfl) (by kernel_rfl)) (by kernel_rfl) (by kernel_rfl) (by kernel_rfl) (by
      rw [MakeChecks.laidMetH_plain _ _ _ (by kernel_rfl)]
      exact laidMet_laidAll _ (by kernel_rfl) (by kernel_rfl))) ?_
  intro W base args ds gs before hval0 hW _ _ hL _
  have hval : ∀ (j : Nat) t v, Tryd.f5.params[j]? = some t → args[j]? = some v → Value.okWide Tryd.prog W .any base t v := hval0
  have hW' := hW
  obtain ⟨p, q, hA0, hV, hbf, hfz, hnd⟩ := hW
  have hA : DataW.TrodAll enc Tryd.prog W 0 (fun _ => true) true Tryd.f5.params.toList args.toList ds p := hA0
  rw [Tryd.params5] at hA hval
  obtain ⟨rfl, rfl⟩ := trodVars_none hV
  rw [List.append_nil] at hbf
  subst hbf
  obtain ⟨v0, v1, d0, d1, p0, p1, rfl, rfl, hp, h0, h1⟩ := trodAll_two hA
  obtain ⟨A, c, g, rfl, hg⟩ := nodes_of (okWide_slice Tryd.underlying22 (hval 0 _ _ rfl rfl)) h0
  obtain ⟨Ap, cp, l, rfl, hl⟩ := pairs_of (okWide_slice Tryd.underlying23 (hval 1 _ _ rfl rfl)) h1
  have hlt := hW'.lt
  have hAk := hA
  refine (FactCasts_calls W (keys_of_laid hL) A c g hg Ap cp l hl).mono fun e W' ⟨he, hE⟩ => ?_
  subst he
  exact ⟨_, rfl, post_of_ext hW' (fun _ _ _ => trodAll_mk1 (shut_bool Tryd.underlying4 true)) (fun sp hsp => by
    rw [Tryd.params5]
    exact trodAll_ext hE hlt (DataW.TrodAll.respare kids full (by decide +kernel) hAk hsp)) (fun _ => rfl) hE (ok_one (by kernel_rfl) rfl (okWide_bool_mk Tryd.underlying4 _))⟩
theorem casts_said : Rows.FactCastsSaid :=
  OpenClaim.holds_of_wide 5 Tryd.f5 rfl rfl rfl rfl rfl rfl rfl ⟨rfl, rfl, rfl, rfl, rfl⟩ rfl rfl rfl rfl rfl (by kernel_rfl) Tryd.func5 (by kernel_rfl)
    (of_decide_eq_true (by kernel_rfl)) (by unfold Func.isWrapper; first | (rw [if_pos (by decide +kernel)]; kernel_rfl) | (rw [if_neg (by decide +kernel)]; exact ⟨rfl, rfl⟩))
    (fun os started H enc _ => casts_lifted os started H enc)
end Go.Proofs.YtndophlnapjkhaaDoor.Vc
namespace Go.Proofs.YtndophlnapjkhaaDoor
open Go
set_option maxRecDepth 100000
theorem factCasts_card : Rows.FactCastsCardSaid :=
  Claim7.holds_tied_plain_at .later [] [.data] true (true, "42531a8e7f3a0ff0f52780fae766584b5a638af6943db5ec212865166759808e") false
    Vc.casts_said (fun _ h => by cases h) (by kernel_rfl) (fun _ h => by cases h) factCasts_row_tie rfl ⟨rfl, rfl⟩ (by kernel_rfl) rfl
    (fun f fn hf hfn => by
      obtain rfl : f = 5 := Option.some.inj ((show Tryd.prog.funcNamed "armillary/armillarylaw12.FactCasts" = some 5 by kernel_rfl).symm.trans hf) |>.symm
      obtain rfl : fn = Tryd.f5 := (Option.some.inj (Tryd.func5.symm.trans hfn)).symm
      exact ⟨by kernel_rfl, fun j t ht => by
        rw [Tryd.params5] at ht
        match j, ht with
        | 0, ht =>
          obtain rfl : t = 22 := by simpa using ht.symm
          exact (show Tryd.prog.wantsStandIn 22 = false by kernel_rfl)
        | 1, ht =>
          obtain rfl : t = 23 := by simpa using ht.symm
          exact (show Tryd.prog.wantsStandIn 23 = false by kernel_rfl)
        | j + 2, ht => simp at ht⟩)
    (by kernel_rfl)
#print axioms factCasts_card
end Go.Proofs.YtndophlnapjkhaaDoor
