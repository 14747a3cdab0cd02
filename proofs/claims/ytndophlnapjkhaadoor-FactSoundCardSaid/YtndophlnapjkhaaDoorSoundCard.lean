/- FactSound of the layer 'fact': for every graph and all facts the statement's function gives true, and its arguments read as they did. Conditions: the listed variable reads as its row says, which the card ties to the program's text. -/
import Derived.Test.YtndophlnapjkhaaDoorLawS
import Derived.Test.YtndophlnapjkhaaDoorRow
import Derived.Test.YtndophlnapjkhaaDoorTie
import Derived.Test.YtndophlnapjkhaaDoorCards
import Derived.SevenTiedAt
namespace Go.Proofs.YtndophlnapjkhaaDoor.Vc
open Go Go.RowKit Go.ChangeShapes Go.WideShapes
set_option maxRecDepth 100000
theorem fact_of_trod {H : Type} {enc : TypeId × Value → H} {w : World} {base : Nat} {spare : Nat → Bool} {held : Bool} (n : Nat) (cs : List Value) (x : DataW H × List MemPlace) (h : DataW.trod enc Tryd.prog w base spare held n 37 cs = some x) : ∃ y : Fact, RFact w y cs := by
  obtain ⟨xs, m, _, _, hlen, hxl, hel⟩ := DataW.trod_struct Tryd.underlying37 h
  have c1 : Tryd.prog.cellsOf 3 = 1 := by kernel_rfl
  have c4 : Tryd.prog.cellsOf 30 = 1 := by kernel_rfl
  have c5 : Tryd.prog.cellsOf 37 = 3 := by kernel_rfl
  rw [c5] at hlen
  match cs, hlen, xs, hxl with
  | [v0, v1, v2], _, [x0, x1, x2], _ =>
    have h0 := hel 0 _ rfl
    have h1 := hel 1 _ rfl
    have h2 := hel 2 _ rfl
    simp [c1, c4] at h0 h1 h2
    obtain ⟨a, e0, _⟩ := DataW.trod_int Tryd.underlying3 h0
    obtain ⟨b, e1, _⟩ := DataW.trod_int Tryd.underlying3 h1
    obtain ⟨Al, nl, cl, l, e2, hl⟩ := sl_of_trod Tryd.underlying30 c1 int_of_trod h2
    simp at e0 e1 e2
    subst e0; subst e1; subst e2
    refine ⟨⟨a, b, l⟩, Al, cl, ?_, ?_⟩
    · simp [hl.len]
    · rw [hl.len]; exact hl
instance : Inhabited Fact := ⟨Fact.nil⟩
theorem facts_of {H : Type} {enc : TypeId × Value → H} {w : World} {base : Nat} {spare : Nat → Bool} {held : Bool} {v : Value} {d : DataW H} {ps : List MemPlace} (hv : ∃ a len cap, v = .slice a len cap) (h : DataW.Trod enc Tryd.prog w base spare held 29 v d ps) : ∃ A c l, v = .slice A (List.length l) c ∧ FactsAt w A c l := by
  obtain ⟨a, len, cap, rfl⟩ := hv
  obtain ⟨fuel, hf⟩ := h
  obtain ⟨A, n, c, l, e, hs⟩ := sl_of_trod Tryd.underlying29 (by kernel_rfl : Tryd.prog.cellsOf 37 = 3) fact_of_trod hf
  have e' : Value.slice a len cap = .slice A n c := by simpa [Value.cells] using e
  refine ⟨A, c, l, by rw [e', hs.len], ?_⟩
  unfold FactsAt
  rw [hs.len]
  exact hs
theorem sound_lifted (os : Os) (started : os.Started) (H : Type) (enc : TypeId × Value → H) :
    ReturnsInHanded {} Tryd.checked os 7 .any (fun w args => (Rows.factSoundSpec.pre enc Tryd.prog Tryd.f7 [] false w args ∧ laidMetH Tryd.prog laidRow w) ∧ sizedMet enc Tryd.prog Tryd.f7 (OpenSpec.ofChange Rows.factSoundSpec) false w args)
      (Rows.factSoundSpec.post enc Tryd.prog Tryd.f7 false true false false) := by
  refine returnsInHanded_of_change_and (C := Tryd.checked) (X := fun w _ => laidMetH Tryd.prog laidRow w) (fun _ _ _ hh h => h.of_heap hh) own started (by kernel_rfl) Tryd.func7
    (ChangeSpec.witness_shaped (enc := enc) (C := Tryd.checked) (os := os) (X := fun w _ => laidMetH Tryd.prog laidRow w) false (World.laidAll Tryd.prog os laidRow) #[.slice none 0 0, .slice none 0 0] 8 (World.laidAll_os _ _ _) (World.shaped_of_ZipB (by kernel_rfl) (by kernel_rfl)) (by kernel_rfl) (by kernel_rfl) (by kernel_rfl) (by
      rw [MakeChecks.laidMetH_plain _ _ _ (by kernel_rfl)]
      exact laidMet_laidAll _ (by kernel_rfl) (by kernel_rfl))) ?_
  intro W base args ds gs before hval0 hW _ _ hL _
  have hval : ∀ (j : Nat) t v, Tryd.f7.params[j]? = some t → args[j]? = some v → Value.okWide Tryd.prog W .any base t v := hval0
  have hW' := hW
  obtain ⟨p, q, hA0, hV, hbf, hfz, hnd⟩ := hW
  have hA : DataW.TrodAll enc Tryd.prog W 0 (fun _ => true) true Tryd.f7.params.toList args.toList ds p := hA0
  rw [Tryd.params7] at hA hval
  obtain ⟨rfl, rfl⟩ := trodVars_none hV
  rw [List.append_nil] at hbf
  subst hbf
  obtain ⟨v0, v1, d0, d1, p0, p1, rfl, rfl, hp, h0, h1⟩ := trodAll_two hA
  obtain ⟨A, c, g, rfl, hg⟩ := nodes_of (okWide_slice Tryd.underlying22 (hval 0 _ _ rfl rfl)) h0
  obtain ⟨Ap, cp, l, rfl, hl⟩ := facts_of (okWide_slice Tryd.underlying29 (hval 1 _ _ rfl rfl)) h1
  have hlt := hW'.lt
  have hAk := hA
  refine (Sound_calls W (keys_of_laid hL) A c g hg Ap cp l hl).mono fun e W' ⟨he, hE⟩ => ?_
  subst he
  exact ⟨_, rfl, post_of_ext hW' (fun _ _ _ => trodAll_mk1 (shut_bool Tryd.underlying4 true)) (fun sp hsp => by
    rw [Tryd.params7]
    exact trodAll_ext hE hlt (DataW.TrodAll.respare kids full (by decide +kernel) hAk hsp)) (fun _ => rfl) hE (ok_one (by kernel_rfl) rfl (okWide_bool_mk Tryd.underlying4 _))⟩
theorem sound_said : Rows.FactSoundSaid :=
  OpenClaim.holds_of_wide 7 Tryd.f7 rfl rfl rfl rfl rfl rfl rfl ⟨rfl, rfl, rfl, rfl, rfl⟩ rfl rfl rfl rfl rfl (by kernel_rfl) Tryd.func7 (by kernel_rfl)
    (of_decide_eq_true (by kernel_rfl)) (by unfold Func.isWrapper; first | (rw [if_pos (by decide +kernel)]; kernel_rfl) | (rw [if_neg (by decide +kernel)]; exact ⟨rfl, rfl⟩))
    (fun os started H enc _ => sound_lifted os started H enc)
end Go.Proofs.YtndophlnapjkhaaDoor.Vc
namespace Go.Proofs.YtndophlnapjkhaaDoor
open Go
set_option maxRecDepth 100000
theorem factSound_card : Rows.FactSoundCardSaid :=
  Claim7.holds_tied_plain_at .later [] [.data] true (true, "42531a8e7f3a0ff0f52780fae766584b5a638af6943db5ec212865166759808e") false
    Vc.sound_said (fun _ h => by cases h) (by kernel_rfl) (fun _ h => by cases h) factSound_row_tie rfl ⟨rfl, rfl⟩ (by kernel_rfl) rfl
    (fun f fn hf hfn => by
      obtain rfl : f = 7 := Option.some.inj ((show Tryd.prog.funcNamed "armillary/armillarylaw12.FactSound" = some 7 by kernel_rfl).symm.trans hf) |>.symm
      obtain rfl : fn = Tryd.f7 := (Option.some.inj (Tryd.func7.symm.trans hfn)).symm
      exact ⟨by kernel_rfl, fun j t ht => by
        rw [Tryd.params7] at ht
        match j, ht with
        | 0, ht =>
          obtain rfl : t = 22 := by simpa using ht.symm
          exact (show Tryd.prog.wantsStandIn 22 = false by kernel_rfl)
        | 1, ht =>
          obtain rfl : t = 29 := by simpa using ht.symm
          exact (show Tryd.prog.wantsStandIn 29 = false by kernel_rfl)
        | j + 2, ht => simp at ht⟩)
    (by kernel_rfl)
#print axioms factSound_card
end Go.Proofs.YtndophlnapjkhaaDoor
