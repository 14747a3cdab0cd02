/- FactLooks of the layer 'fact': for every graph, all facts and any number the statement's function gives true, and its arguments read as they did. Conditions: the listed variable reads as its row says, which the card ties to the program's text. -/
import Derived.Test.YtndophlnapjkhaaGreatDoorPl6
import Derived.Test.YtndophlnapjkhaaGreatDoorTie
import Derived.Test.YtndophlnapjkhaaGreatDoorCards
import Derived.SevenTiedAt
namespace Go.Proofs.YtndophlnapjkhaaGreatDoor.Vc
open Go Go.RowKit Go.ChangeShapes Go.WideShapes
set_option maxRecDepth 100000
theorem fact_of_trod {H : Type} {enc : TypeId × Value → H} {w : World} {base : Nat} {spare : Nat → Bool} {held : Bool} (n : Nat) (cs : List Value) (x : DataW H × List MemPlace) (h : DataW.trod enc Tryz.prog w base spare held n 43 cs = some x) : ∃ y : Fact, RFact w y cs := by
  obtain ⟨xs, m, _, _, hlen, hxl, hel⟩ := DataW.trod_struct Tryz.underlying43 h
  have c1 : Tryz.prog.cellsOf 3 = 1 := by kernel_rfl
  have c4 : Tryz.prog.cellsOf 26 = 1 := by kernel_rfl
  have c5 : Tryz.prog.cellsOf 43 = 3 := by kernel_rfl
  rw [c5] at hlen
  match cs, hlen, xs, hxl with
  | [v0, v1, v2], _, [x0, x1, x2], _ =>
    have h0 := hel 0 _ rfl
    have h1 := hel 1 _ rfl
    have h2 := hel 2 _ rfl
    simp [c1, c4] at h0 h1 h2
    obtain ⟨a, e0, _⟩ := DataW.trod_int Tryz.underlying3 h0
    obtain ⟨b, e1, _⟩ := DataW.trod_int Tryz.underlying3 h1
    obtain ⟨Al, nl, cl, l, e2, hl⟩ := sl_of_trod Tryz.underlying26 c1 int_of_trod h2
    simp at e0 e1 e2
    subst e0; subst e1; subst e2
    refine ⟨⟨a, b, l⟩, Al, cl, ?_, ?_⟩
    · simp [hl.len]
    · rw [hl.len]; exact hl
instance : Inhabited Fact := ⟨Fact.nil⟩
theorem facts_of {H : Type} {enc : TypeId × Value → H} {w : World} {base : Nat} {spare : Nat → Bool} {held : Bool} {v : Value} {d : DataW H} {ps : List MemPlace} (hv : ∃ a len cap, v = .slice a len cap) (h : DataW.Trod enc Tryz.prog w base spare held 25 v d ps) : ∃ A c l, v = .slice A (List.length l) c ∧ FactsAt w A c l := by
  obtain ⟨a, len, cap, rfl⟩ := hv
  obtain ⟨fuel, hf⟩ := h
  obtain ⟨A, n, c, l, e, hs⟩ := sl_of_trod Tryz.underlying25 (by kernel_rfl : Tryz.prog.cellsOf 43 = 3) fact_of_trod hf
  have e' : Value.slice a len cap = .slice A n c := by simpa [Value.cells] using e
  refine ⟨A, c, l, by rw [e', hs.len], ?_⟩
  unfold FactsAt
  rw [hs.len]
  exact hs
theorem looks_lifted (os : Os) (started : os.Started) (H : Type) (enc : TypeId × Value → H) :
    ReturnsInHanded {} Tryz.checked os 4 .any (fun w args => (Rows.factLooksSpec.pre enc Tryz.prog Tryz.f4 [] false w args ∧ laidMetH Tryz.prog laidRow w) ∧ sizedMet enc Tryz.prog Tryz.f4 (OpenSpec.ofChange Rows.factLooksSpec) false w args)
      (Rows.factLooksSpec.post enc Tryz.prog Tryz.f4 false true false false) := by
  refine returnsInHanded_of_change_and (C := Tryz.checked) (X := fun w _ => laidMetH Tryz.prog laidRow w) (fun _ _ _ hh h => h.of_heap hh) own started (by kernel_rfl) Tryz.func4
    (ChangeSpec.witness_shaped (enc := enc) (C := Tryz.checked) (os := os) (X := fun w _ => laidMetH Tryz.prog laidRow w) false (World.laidAll Tryz.prog os laidRow) #[.slice none 0 0, .slice none 0 0, .int .i64 0] 8 (World.laidAll_os _ _ _) (World.shaped_of_ZipB (by kernel_rfl) (by kernel_rfl)) (by kernel_rfl) (by kernel_rfl) (by kernel_rfl) (by
      rw [MakeChecks.laidMetH_plain _ _ _ (by kernel_rfl)]
      exact laidMet_laidAll _ (by kernel_rfl) (by kernel_rfl))) ?_
  intro W base args ds gs before hval0 hW _ _ hL _
  have hval : ∀ (j : Nat) t v, Tryz.f4.params[j]? = some t → args[j]? = some v → Value.okWide Tryz.prog W .any base t v := hval0
  have hW' := hW
  obtain ⟨p, q, hA0, hV, hbf, hfz, hnd⟩ := hW
  have hA : DataW.TrodAll enc Tryz.prog W 0 (fun _ => true) true Tryz.f4.params.toList args.toList ds p := hA0
  rw [Tryz.params4] at hA hval
  obtain ⟨rfl, rfl⟩ := trodVars_none hV
  rw [List.append_nil] at hbf
  subst hbf
  obtain ⟨v0, v1, v2, d0, d1, d2, p0, p1, p2, rfl, rfl, hp, h0, h1, h2⟩ := trodAll_three hA
  obtain ⟨A, c, g, rfl, hg⟩ := nodes_of (okWide_slice Tryz.underlying22 (hval 0 _ _ rfl rfl)) h0
  obtain ⟨Ap, cp, l, rfl, hl⟩ := facts_of (okWide_slice Tryz.underlying25 (hval 1 _ _ rfl rfl)) h1
  obtain ⟨x0, rfl⟩ := okWide_int Tryz.underlying3 (hval 2 _ _ rfl rfl)
  have hlt := hW'.lt
  have hAk := hA
  refine (Looks_calls W (keys_of_laid hL) A c g hg Ap cp l hl x0).mono fun e W' ⟨he, hE⟩ => ?_
  subst he
  exact ⟨_, rfl, post_of_ext hW' (fun _ _ _ => trodAll_mk1 (shut_bool Tryz.underlying4 true)) (fun sp hsp => by
    rw [Tryz.params4]
    exact trodAll_ext hE hlt (DataW.TrodAll.respare kids full (by decide +kernel) hAk hsp)) (fun _ => rfl) hE (ok_one (by kernel_rfl) rfl (okWide_bool_mk Tryz.underlying4 _))⟩
theorem looks_said : Rows.FactLooksSaid :=
  OpenClaim.holds_of_wide 4 Tryz.f4 rfl rfl rfl rfl rfl rfl rfl ⟨rfl, rfl, rfl, rfl, rfl⟩ rfl rfl rfl rfl rfl (by kernel_rfl) Tryz.func4 (by kernel_rfl)
    (of_decide_eq_true (by kernel_rfl)) (by unfold Func.isWrapper; first | (rw [if_pos (by decide +kernel)]; kernel_rfl) | (rw [if_neg (by decide +kernel)]; exact ⟨rfl, rfl⟩))
    (fun os started H enc _ => looks_lifted os started H enc)
end Go.Proofs.YtndophlnapjkhaaGreatDoor.Vc
namespace Go.Proofs.YtndophlnapjkhaaGreatDoor
open Go
set_option maxRecDepth 100000
theorem factLooks_card : Rows.FactLooksCardSaid :=
  Claim7.holds_tied_plain_at .later [] [.data] true (true, "165dcb3cb9f6b7d85189f64344ebfef36a12f70fa8140cc657c9cc9a0360fcbc") false
    Vc.looks_said (fun _ h => by cases h) (by kernel_rfl) (fun _ h => by cases h) factLooks_row_tie rfl ⟨rfl, rfl⟩ (by kernel_rfl) rfl
    (fun f fn hf hfn => by
      obtain rfl : f = 4 := Option.some.inj ((show Tryz.prog.funcNamed "armillary/armillarylaw12.FactLooks" = some 4 by kernel_rfl).symm.trans hf) |>.symm
      obtain rfl : fn = Tryz.f4 := (Option.some.inj (Tryz.func4.symm.trans hfn)).symm
      exact ⟨by kernel_rfl, fun j t ht => by
        rw [Tryz.params4] at ht
        match j, ht with
        | 0, ht =>
          obtain rfl : t = 22 := by simpa using ht.symm
          exact (show Tryz.prog.wantsStandIn 22 = false by kernel_rfl)
        | 1, ht =>
          obtain rfl : t = 25 := by simpa using ht.symm
          exact (show Tryz.prog.wantsStandIn 25 = false by kernel_rfl)
        | 2, ht =>
          obtain rfl : t = 3 := by simpa using ht.symm
          exact (show Tryz.prog.wantsStandIn 3 = false by kernel_rfl)
        | j + 3, ht => simp at ht⟩)
    (by kernel_rfl)
#print axioms factLooks_card
end Go.Proofs.YtndophlnapjkhaaGreatDoor
