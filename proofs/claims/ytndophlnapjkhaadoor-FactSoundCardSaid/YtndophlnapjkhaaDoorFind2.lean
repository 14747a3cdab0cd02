/- Facts that are found: they hold, each pair has one, each is come to. In plain Lean. Conditions: those of each statement. -/
import Derived.Test.YtndophlnapjkhaaDoorFind1
namespace Go.Proofs.YtndophlnapjkhaaDoor.Vc
open Go Go.RowKit
set_option linter.unusedVariables false
set_option linter.unusedSimpArgs false
section
variable {g : List GNode}
structure GoodL (g : List GNode) (l : List Fact) : Prop where
  nodup : (prs l).Nodup
  inn : ∀ p ∈ prs l, InG g.length p
theorem GoodL.nil : GoodL g [] := ⟨by simp [prs], by simp [prs]⟩
theorem GoodL.le {l : List Fact} (h : GoodL g l) : l.length ≤ g.length * g.length := by
  have := nodup_sub (allP g.length) (prs l) h.nodup (fun x hx => mem_allP (h.inn x hx))
  rwa [length_allP, prs_length] at this
theorem GoodL.snoc {l : List Fact} (h : GoodL g l) {f : Fact} (hn : (f.a, f.b) ∉ prs l) (hi : InG g.length (f.a, f.b)) : GoodL g (l ++ [f]) := by
  refine ⟨?_, fun p hp => ?_⟩
  · rw [prs_append, List.nodup_append]
    refine ⟨h.nodup, by simp [prs], ?_⟩
    rintro a ha b hb rfl
    have : a = (f.a, f.b) := by simpa [prs] using hb
    exact hn (this ▸ ha)
  · rw [prs_append, List.mem_append] at hp
    rcases hp with hp | hp
    · exact h.inn p hp
    · have : p = (f.a, f.b) := by simpa [prs] using hp
      rw [this]; exact hi
theorem GoodL.lt {l : List Fact} (h : GoodL g l) {p : Int × Int} (hn : p ∉ prs l) (hi : InG g.length p) : l.length < g.length * g.length := by
  have := (h.snoc (f := ⟨p.1, p.2, []⟩) hn hi).le
  simp at this
  omega
theorem GoodL.congr {l l' : List Fact} (h : GoodL g l) (e : prs l' = prs l) : GoodL g l' := ⟨by rw [e]; exact h.nodup, by rw [e]; exact h.inn⟩
/-- A fact is what its search gave: its numbers are those of its pairs' facts. -/
structure DoneAt (g : List GNode) (P : FP) (f : Fact) : Prop where
  may : mayX g false (f.a, f.b) = true
  nums : ∃ ws : List Int, f = doneP g (f.a, f.b) ws ∧ ws.length = (onP g (f.a, f.b)).length ∧ ∀ (j : Nat) q, (onP g (f.a, f.b))[j]? = some q → ∃ k, ws[j]? = some k ∧ 0 ≤ k ∧ P[k.toNat]? = some q
theorem get_pre {α : Type} {P Q : List α} {i : Nat} {x : α} (h : P[i]? = some x) : (P ++ Q)[i]? = some x := by
  have := (List.getElem?_eq_some_iff.1 h).1
  rw [List.getElem?_append_left this]
  exact h
theorem DoneAt.more {P : FP} {f : Fact} (h : DoneAt g P f) (Q : FP) : DoneAt g (P ++ Q) f := by
  obtain ⟨ws, h1, h2, h3⟩ := h.nums
  exact ⟨h.may, ws, h1, h2, fun j q hq => let ⟨k, h4, h5, h6⟩ := h3 j q hq; ⟨k, h4, h5, get_pre h6⟩⟩
theorem Reach.trans {l : List Fact} {i j k : Int} (h : Reach g l i j) (h2 : Reach g l j k) : Reach g l i k := by
  induction h2 with
  | refl => exact h
  | step _ hj ih => exact .step ih hj
theorem Reach.mono {l l' : List Fact} (hs : ∀ n : Int, ∀ x ∈ onF g (fat l n), x ∈ onF g (fat l' n)) {i j : Int} (h : Reach g l i j) : Reach g l' i j := by
  induction h with
  | refl => exact .refl
  | step _ hj ih => exact .step ih (hs _ _ hj)
theorem fat_out {l : List Fact} {n : Int} (h : l.length ≤ n.toNat) : fat l n = Fact.nil := by
  unfold fat
  rw [List.getD_eq_getElem?_getD, List.getElem?_eq_none h]
  rfl
theorem onF_nil : onF g Fact.nil = [] := by
  unfold onF Fact.nil
  split <;> rfl
theorem sub_append (l r : List Fact) (n : Int) (x : Int) (hx : x ∈ onF g (fat l n)) : x ∈ onF g (fat (l ++ r) n) := by
  rcases Nat.lt_or_ge n.toNat l.length with h | h
  · have : fat (l ++ r) n = fat l n := by
      unfold fat
      rw [List.getD_eq_getElem?_getD, List.getD_eq_getElem?_getD, List.getElem?_append_left h]
    rw [this]; exact hx
  · rw [fat_out h, onF_nil] at hx
    simp at hx
theorem sub_set (l : List Fact) (i : Nat) (f : Fact) (h0 : onF g (fat l (i : Int)) = []) (n : Int) (x : Int) (hx : x ∈ onF g (fat l n)) : x ∈ onF g (fat (l.set i f) n) := by
  by_cases h : n.toNat = i
  · have : fat l n = fat l (i : Int) := by unfold fat; rw [h]; rfl
    rw [this, h0] at hx
    simp at hx
  · have : fat (l.set i f) n = fat l n := by
      unfold fat
      rw [List.getD_eq_getElem?_getD, List.getD_eq_getElem?_getD, List.getElem?_set_ne (fun e => h e.symm)]
    rw [this]; exact hx
/-- What the search for one pair gives. -/
structure OneIs (g : List GNode) (p : Int × Int) (l : List Fact) (r : Int × List Fact) : Prop where
  out : ∃ news, r.2 = l ++ news ∧ GoodL g r.2 ∧ 0 ≤ r.1 ∧ (prs r.2)[r.1.toNat]? = some p ∧ (∀ f ∈ news, DoneAt g (prs r.2) f) ∧ ∀ i : Nat, l.length ≤ i → i < r.2.length → Reach g r.2 r.1 i
/-- What the searches for some pairs give. -/
structure AllIs (g : List GNode) (qs : FP) (l : List Fact) (r : List Int × List Fact) : Prop where
  out : ∃ news, r.2 = l ++ news ∧ GoodL g r.2 ∧ r.1.length = qs.length ∧ (∀ (j : Nat) q, qs[j]? = some q → ∃ k, r.1[j]? = some k ∧ 0 ≤ k ∧ (prs r.2)[k.toNat]? = some q) ∧ (∀ f ∈ news, DoneAt g (prs r.2) f) ∧ ∀ i : Nat, l.length ≤ i → i < r.2.length → ∃ k ∈ r.1, Reach g r.2 k i
theorem all_is {F : Int × Int → List Fact → Int × List Fact} {N : Nat} : ∀ (qs : FP) (l : List Fact), (∀ q ∈ qs, ∀ l', N ≤ l'.length → GoodL g l' → OneIs g q l' (F q l')) → N ≤ l.length → GoodL g l → AllIs g qs l (findsF F qs l)
  | [], l, _, _, hl => ⟨[], by simp [findsF], hl, rfl, fun j q h => by simp at h, fun f h => by simp at h, fun i h1 h2 => by simp [findsF] at h2; omega⟩
  | q :: qs, l, hF, hN, hl => by
    obtain ⟨n1, e1, g1, k1, a1, d1, r1⟩ := (hF q List.mem_cons_self l hN hl).out
    have hN2 : N ≤ (F q l).2.length := by rw [e1, List.length_append]; omega
    obtain ⟨n2, e2, g2, len2, a2, d2, r2⟩ := (all_is qs (F q l).2 (fun q' h => hF q' (List.mem_cons_of_mem _ h)) hN2 g1).out
    have hp : prs (findsF F qs (F q l).2).2 = prs (F q l).2 ++ prs n2 := by rw [e2, prs_append]
    refine ⟨n1 ++ n2, by simp only [findsF]; rw [e2, e1, List.append_assoc], g2, by simp [findsF, len2], fun j x hj => ?_, fun f hf => ?_, fun i h1 h2 => ?_⟩
    · cases j with
      | zero =>
        have : q = x := by simpa using hj
        subst this
        exact ⟨(F q l).1, rfl, k1, by simp only [findsF]; rw [hp]; exact get_pre a1⟩
      | succ j =>
        obtain ⟨k, h3, h4, h5⟩ := a2 j x (by simpa using hj)
        exact ⟨k, by simpa [findsF] using h3, h4, h5⟩
    · simp only [findsF]
      rcases List.mem_append.1 hf with hf | hf
      · rw [hp]; exact (d1 f hf).more _
      · exact d2 f hf
    · simp only [findsF] at h2 ⊢
      rcases Nat.lt_or_ge i (F q l).2.length with h3 | h3
      · refine ⟨(F q l).1, List.mem_cons_self, ?_⟩
        refine Reach.mono (fun n x hx => ?_) (r1 i h1 h3)
        rw [e2]
        exact sub_append _ _ n x hx
      · obtain ⟨k, hk1, hk2⟩ := r2 i h3 h2
        exact ⟨k, List.mem_cons_of_mem _ hk1, hk2⟩
theorem prs_set {l : List Fact} {i : Nat} {f : Fact} (h : (prs l)[i]? = some (f.a, f.b)) : prs (l.set i f) = prs l := by
  unfold prs at h ⊢
  rw [List.map_set]
  apply List.ext_getElem?
  intro j
  by_cases hj : i = j
  · subst hj
    rw [List.getElem?_set, if_pos rfl, h]
    have := (List.getElem?_eq_some_iff.1 h).1
    rw [if_pos (by simpa using this)]
  · rw [List.getElem?_set_ne hj]
theorem one_is (hok : GraphOk g) : ∀ (k : Nat) (p : Int × Int) (l : List Fact), GoodL g l → InG g.length p → mayX g false p = true → g.length * g.length + 1 ≤ k + l.length → OneIs g p l (findF g k p l)
  | 0, p, l, hl, hp, hm, hk => by have := hl.le; omega
  | k + 1, p, l, hl, hp, hm, hk => by
    unfold findF
    cases ha : atP p 0 l with
    | some i =>
      obtain ⟨_, h1⟩ := atP_some l 0 i ha
      exact ⟨[], by simp, hl, by simp, by simpa using h1, by simp, fun i h1 h2 => by simp at h2; omega⟩
    | none =>
      have hn := (atP_none l 0).1 ha
      have hfp : ((firstP g p).a, (firstP g p).b) = p := rfl
      have hl1 : GoodL g (l ++ [firstP g p]) := hl.snoc (by rw [hfp]; exact hn) (by rw [hfp]; exact hp)
      have hfnd := found_p hok hp hm
      obtain ⟨news, e, hg, len, hat, hd, hr⟩ := (all_is (F := findF g k) (N := l.length + 1) (onP g p) (l ++ [firstP g p]) (fun q hq l' hl' hgl => one_is hok k q l' hgl (hfnd.inn q hq).1 (hfnd.inn q hq).2 (by omega)) (by simp) hl1).out
      obtain ⟨R, hR⟩ : ∃ R, R = findsF (findF g k) (onP g p) (l ++ [firstP g p]) := ⟨_, rfl⟩
      rw [← hR] at e hg len hat hd hr ⊢
      simp only
      have hset : R.2.set l.length (doneP g p R.1) = l ++ (doneP g p R.1 :: news) := by
        rw [e, List.append_assoc, List.set_append_right _ _ (Nat.le_refl _), Nat.sub_self]
        rfl
      have hpk : (prs R.2)[l.length]? = some p := by
        rw [e, prs_append, prs_append, List.append_assoc, List.getElem?_append_right (by rw [prs_length]; exact Nat.le_refl _), prs_length, Nat.sub_self]
        rfl
      have hps : prs (R.2.set l.length (doneP g p R.1)) = prs R.2 := prs_set hpk
      have hlen : (R.2.set l.length (doneP g p R.1)).length = R.2.length := by simp
      have hRl : l.length < R.2.length := by rw [e]; simp
      have hfat : fat R.2 (l.length : Int) = firstP g p := by
        have := fat_nat hRl
        rw [e, List.append_assoc, List.getElem?_append_right (Nat.le_refl _), Nat.sub_self] at this
        rw [e, List.append_assoc]
        injection this with this
        exact this.symm
      have hfat2 : fat (R.2.set l.length (doneP g p R.1)) (l.length : Int) = doneP g p R.1 := by
        have := fat_nat (l := R.2.set l.length (doneP g p R.1)) (k := l.length) (by rw [hlen]; exact hRl)
        rw [List.getElem?_set, if_pos rfl, if_pos hRl] at this
        injection this with this
        exact this.symm
      refine ⟨doneP g p R.1 :: news, hset, hg.congr hps, by simp, by rw [hps]; simpa using hpk, fun f hf => ?_, fun i h1 h2 => ?_⟩
      · rw [hps]
        rcases List.mem_cons.1 hf with rfl | hf
        · exact ⟨hm, R.1, rfl, len, hat⟩
        · exact hd f hf
      · rw [hlen] at h2
        rcases Nat.lt_or_ge l.length i with h3 | h3
        · obtain ⟨k', hk1, hk2⟩ := hr i (by simp; omega) h2
          refine Reach.trans (.step .refl (j := k') ?_) (Reach.mono (fun n x hx => sub_set _ _ _ (by rw [hfat]; exact firstP_on) n x hx) hk2)
          rw [hfat2, doneP_on]
          exact hk1
        · have : i = l.length := by omega
          subst this
          exact .refl
/-- All pairs' facts. -/
def allF (g : List GNode) (qs : FP) : List Int × List Fact := findsF (findF g (g.length * g.length + 1)) qs []
theorem allF_is (hok : GraphOk g) {qs : FP} (h : ∀ q ∈ qs, InG g.length q ∧ mayX g false q = true) : AllIs g qs [] (allF g qs) :=
  all_is (N := 0) qs [] (fun q hq l' _ hgl => one_is hok _ q l' hgl (h q hq).1 (h q hq).2 (by omega)) (Nat.zero_le _) .nil
theorem matchF_of {l : List Fact} : ∀ (ps : FP) (ks : List Int), (∀ (j : Nat) q, ps[j]? = some q → ∃ k, ks[j]? = some k ∧ 0 ≤ k ∧ (prs l)[k.toNat]? = some q) → matchF l ps ks = true
  | [], ks, _ => by unfold matchF; rfl
  | p :: ps, [], _ => by unfold matchF; rfl
  | p :: ps, k :: ks, h => by
    obtain ⟨k', h1, h2, h3⟩ := h 0 p rfl
    have hk : k = k' := by simpa using h1
    subst hk
    have ih := matchF_of ps ks (fun j q hq => h (j + 1) q (by simpa using hq))
    unfold matchF
    rw [ih, Bool.and_true]
    have hlt := (List.getElem?_eq_some_iff.1 h3).1
    rw [prs_length] at hlt
    have := fat_nat hlt
    rw [Int.toNat_of_nonneg h2] at this
    unfold prs at h3
    rw [List.getElem?_map, this] at h3
    injection h3 with h3
    exact decide_eq_true h3.symm
theorem done_holds (hok : GraphOk g) {l : List Fact} {f : Fact} (hi : InG g.length (f.a, f.b)) (h : DoneAt g (prs l) f) : formedF g l.length f = true ∧ holdsF g l f = true := by
  obtain ⟨ws, h1, h2, h3⟩ := h.nums
  have hfnd := found_p hok hi h.may
  have hon : onF g f = ws := by rw [h1]; exact doneP_on ws
  have hby : byF g f = (onP g (f.a, f.b), true) := by
    rw [h1, doneP_by]
    exact Prod.ext rfl hfnd.yes
  have hmany : manyF g f = some (f.why.length : Int) := by rw [h1]; exact hfnd.many ws h2
  constructor
  · rw [formed_some (by simp [placeB, hi.1, hi.2.1]) (by simp [placeB, hi.2.2.1, hi.2.2.2]) hmany, hon]
    simp only [decide_true, Bool.true_and, Bool.not_eq_true']
    rw [List.any_eq_false]
    intro k hk
    obtain ⟨j, hj⟩ := List.mem_iff_getElem?.1 hk
    have hjl := (List.getElem?_eq_some_iff.1 hj).1
    obtain ⟨k', h4, h5, h6⟩ := h3 j _ (List.getElem?_eq_getElem (by omega : j < (onP g (f.a, f.b)).length))
    rw [hj] at h4
    injection h4 with h4
    subst h4
    have := (List.getElem?_eq_some_iff.1 h6).1
    rw [prs_length] at this
    simp [outB]
    omega
  · unfold holdsF
    rw [hby, hon]
    simp only [Bool.true_and, h2, decide_true]
    exact matchF_of _ _ h3
/-- What is found for pairs each of which may. -/
structure Found (g : List GNode) (qs : FP) (a : List Int) (l : List Fact) : Prop where
  good : GoodL g l
  many : a.length = qs.length
  at_ : ∀ (j : Nat) q, qs[j]? = some q → ∃ k, a[j]? = some k ∧ 0 ≤ k ∧ (prs l)[k.toNat]? = some q
  done : ∀ f ∈ l, DoneAt g (prs l) f
  reach : ∀ i : Nat, i < l.length → ∃ k ∈ a, Reach g l k i
theorem allF_found (hok : GraphOk g) {qs : FP} (h : ∀ q ∈ qs, InG g.length q ∧ mayX g false q = true) : Found g qs (allF g qs).1 (allF g qs).2 := by
  obtain ⟨news, e, hg, len, hat, hd, hr⟩ := (allF_is hok h).out
  rw [List.nil_append] at e
  exact ⟨hg, len, hat, by rw [e] at hd ⊢; exact hd, fun i hi => hr i (Nat.zero_le _) hi⟩
theorem Found.holds {qs : FP} {a : List Int} {l : List Fact} (h : Found g qs a l) (hok : GraphOk g) {f : Fact} (hf : f ∈ l) : formedF g l.length f = true ∧ holdsF g l f = true :=
  done_holds hok (h.good.inn _ (List.mem_map.2 ⟨f, hf, rfl⟩)) (h.done f hf)
end
end Go.Proofs.YtndophlnapjkhaaDoor.Vc
