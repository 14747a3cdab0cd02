/- One round of the solver: what is so on the way through the pairs. In plain Lean. Conditions: those of each statement. -/
import Derived.Test.YtndophlnapjkhaaDoorSubMay
namespace Go.Proofs.YtndophlnapjkhaaDoor.Vc
open Go Go.RowKit
set_option linter.unusedVariables false
structure RoundAt (g : List GNode) (st : Bool) (first : List (Int × Int)) (mr : PM) (all : List (Int × Int)) (k : Nat) (mk : PM) (f : Int) : Prop where
  inv : Inv g st mk
  firsts : ∀ q ∈ first, getM mk q ≠ none
  left : leftM g.length mk ≤ leftM g.length mr
  known : ∀ q ∈ all, getM mk q ≠ none
  flag : (f = -1 ∧ leftM g.length mk < leftM g.length mr) ∨ (f = mr.length ∧ Grows g.length mr mk ∧ (mk = mr → ∀ (j : Nat) q v, j < k → all[j]? = some q → getM mr q = some v → 0 < v → holdsM g st mr q = (true, mr)))
section
variable {g : List GNode} {st : Bool} {first : List (Int × Int)} {mr mk : PM} {all : List (Int × Int)} {k : Nat} {f : Int}
theorem known_grows {m m' : PM} {n : Nat} (h : Grows n m m') {q : Int × Int} (hq : getM m q ≠ none) : getM m' q ≠ none := by
  cases hg : getM m q with
  | none => exact absurd hg hq
  | some v => rw [h.keeps hg]; simp
theorem known_set {m : PM} {p q : Int × Int} {v : Int} (hq : getM m q ≠ none) : getM (setM m p v) q ≠ none := by
  rw [getM_setM]
  split
  · simp
  · exact hq
theorem RoundAt.start (hi : Inv g st mr) (hf : ∀ q ∈ first, getM mr q ≠ none) (ha : ∀ q ∈ all, getM mr q ≠ none) : RoundAt g st first mr all 0 mr mr.length :=
  ⟨hi, hf, Nat.le_refl _, ha, .inr ⟨rfl, .refl _, fun _ j q v hj => absurd hj (Nat.not_lt_zero _)⟩⟩
theorem RoundAt.skip (h : RoundAt g st first mr all k mk f) {p : Int × Int} (hp : all[k]? = some p) (h0 : ¬ 0 < (getM mk p).getD 0) : RoundAt g st first mr all (k + 1) mk f := by
  refine ⟨h.inv, h.firsts, h.left, h.known, ?_⟩
  rcases h.flag with hf | ⟨hf, hg, hall⟩
  · exact .inl hf
  · refine .inr ⟨hf, hg, fun he j q v hj hq hv h1 => ?_⟩
    rcases Nat.lt_or_eq_of_le (Nat.le_of_lt_succ hj) with hlt | rfl
    · exact hall he j q v hlt hq hv h1
    · rw [hp] at hq
      cases hq
      rw [he, hv] at h0
      exact absurd h1 h0
theorem RoundAt.keep (h : RoundAt g st first mr all k mk f) (hok : GraphOk g) {p : Int × Int} (hp : all[k]? = some p) (hin : InG g.length p) (hh : (holdsM g st mk p).1 = true) : RoundAt g st first mr all (k + 1) (holdsM g st mk p).2 f := by
  have hg1 := (holdsM_is (st := st) hok mk hin).1
  refine ⟨h.inv.grows hg1, fun q hq => known_grows hg1 (h.firsts q hq), Nat.le_trans hg1.left h.left, fun q hq => known_grows hg1 (h.known q hq), ?_⟩
  rcases h.flag with ⟨hf, hl⟩ | ⟨hf, hg, hall⟩
  · exact .inl ⟨hf, Nat.lt_of_le_of_lt hg1.left hl⟩
  · refine .inr ⟨hf, hg.trans hg1, fun he j q v hj hq hv h1 => ?_⟩
    have hmk : mk = mr := by
      refine hg.eq ?_
      have := hg.le
      have := hg1.le
      rw [he] at this
      omega
    rcases Nat.lt_or_eq_of_le (Nat.le_of_lt_succ hj) with hlt | rfl
    · exact hall hmk j q v hlt hq hv h1
    · rw [hp] at hq
      cases hq
      rw [hmk] at hh he
      exact Prod.ext hh he
theorem RoundAt.take (h : RoundAt g st first mr all k mk f) (hok : GraphOk g) {p : Int × Int} (hp : all[k]? = some p) (hin : InG g.length p) (h0 : 0 < (getM mk p).getD 0) (hh : (holdsM g st mk p).1 = false) : RoundAt g st first mr all (k + 1) (setM (holdsM g st mk p).2 p 0) (-1) := by
  have hg1 := (holdsM_is (st := st) hok mk hin)
  obtain ⟨v, hv, hv0⟩ : ∃ v, getM mk p = some v ∧ 0 < v := by
    cases hv : getM mk p with
    | none => rw [hv] at h0; simp at h0
    | some v => rw [hv] at h0; exact ⟨v, rfl, h0⟩
  have hl := left_take hin (hg1.1.keeps hv) hv0
  have hl2 := hg1.1.left
  have hl3 := h.left
  exact ⟨(h.inv.grows hg1.1).take hok hin (fun X hX => by rw [hg1.2 X hX, hh]), fun q hq => known_set (known_grows hg1.1 (h.firsts q hq)), by omega, fun q hq => known_set (known_grows hg1.1 (h.known q hq)), .inl ⟨rfl, by omega⟩⟩
theorem RoundAt.done (h : RoundAt g st first mr all all.length mk f) (hall : ∀ (j : Nat) q, mr[j]? = some q → q.1 ∈ all) (hf : f = (mk.length : Int)) : Solved g st mk := by
  rcases h.flag with ⟨h1, _⟩ | ⟨h1, hg, hh⟩
  · omega
  · have he : mk = mr := hg.eq (by omega)
    refine ⟨h.inv, fun p v hp hv => ?_⟩
    rw [he] at hp ⊢
    obtain ⟨q, hq, hqp⟩ := List.mem_map.1 (getM_mem hp)
    obtain ⟨j, hj⟩ := List.mem_iff_getElem?.1 hq
    have := hall j q hj
    rw [hqp] at this
    obtain ⟨i, hi⟩ := List.mem_iff_getElem?.1 this
    exact hh he i p v (List.getElem?_eq_some_iff.1 hi).1 hi hp hv
theorem RoundAt.again (h : RoundAt g st first mr all all.length mk f) (hf : ¬ f = (mk.length : Int)) : leftM g.length mk < leftM g.length mr := by
  rcases h.flag with ⟨_, h1⟩ | ⟨h1, hg, _⟩
  · exact h1
  · exact hg.left_lt (by omega)
theorem grant_known (m : PM) (p : Int × Int) : getM (grant m p).2 p ≠ none := by
  unfold grant
  cases h : getM m p with
  | none => simp [getM_setM]
  | some v => simp [h]
theorem ownsRow_slice {w : World} {base e sz n : Nat} {v : Value} {xs : List Value} (h : w.ownsRow base e sz v n xs) : ∃ A c, v = .slice A n c := by
  rcases h.2 with ⟨rfl, rfl⟩ | ⟨g, cap, cur, rfl, _⟩
  · exact ⟨none, 0, rfl⟩
  · exact ⟨_, _, rfl⟩
theorem pat_nat {l : List (Int × Int)} {k : Nat} (h : k < l.length) : l[k]? = some (l.getD (k : Int).toNat (0, 0)) := by
  rw [Int.toNat_natCast, List.getD_eq_getElem?_getD, List.getElem?_eq_getElem h]
  rfl
end
end Go.Proofs.YtndophlnapjkhaaDoor.Vc
