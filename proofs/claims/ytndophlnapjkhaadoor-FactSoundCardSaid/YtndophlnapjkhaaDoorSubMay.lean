/- The greatest relation that the rules of package sub allow; what the solver's map says of it. In plain Lean. Conditions: those of each statement. -/
import Derived.Test.YtndophlnapjkhaaDoorSubPure
namespace Go.Proofs.YtndophlnapjkhaaDoor.Vc
open Go Go.RowKit
set_option linter.unusedVariables false
set_option linter.unusedSimpArgs false
section
variable {g : List GNode} {st : Bool} {X Y : Int × Int → Bool}
/-! ### More granted, more held -/
theorem recX_mono (h : ∀ q, X q = true → Y q = true) (s : GNode) : ∀ (items : List (ByteArray × Int)), recX X s items = true → recX Y s items = true
  | [], _ => rfl
  | (key, tl) :: r, hr => by
    unfold recX at hr ⊢
    split at hr
    · cases hr
    · rename_i hi
      rw [if_neg hi]
      rw [Bool.and_eq_true] at hr ⊢
      exact ⟨h _ hr.1, recX_mono h s r hr.2⟩
theorem doesX_mono (h : ∀ q, X q = true → Y q = true) (s t : GNode) (hd : doesX st X s t = true) : doesX st Y s t = true := by
  unfold doesX at hd ⊢
  split at hd
  · rename_i h1
    rw [if_pos h1]; exact hd
  · rename_i h1
    rw [if_neg h1]
    split at hd
    · rename_i h2
      rw [if_pos h2]
      unfold ruleX at hd ⊢
      split at hd
      · rename_i h5; rw [if_pos h5]; exact hd
      · rename_i h5
        rw [if_neg h5]
        split at hd
        · rename_i h7; rw [if_pos h7]; exact recX_mono h s _ hd
        · rename_i h7
          rw [if_neg h7]
          split at hd
          · rename_i h9
            rw [if_pos h9]
            split at hd
            · rename_i hn; rw [if_pos hn]; exact h _ hd
            · cases hd
          · rename_i h9; rw [if_neg h9]
    · cases hd
theorem findX_some {α : Type} {p : α → Bool} : ∀ (k : Nat) (l : List α), (findX p k l).isSome = l.any p
  | _, [] => rfl
  | k, x :: r => by
    unfold findX
    rw [List.any_cons]
    cases h : p x with
    | true => simp
    | false => simp [findX_some (k + 1) r]
theorem pickX_some (a b : Int) : (pickX g st X a b ≠ -2) ↔ ((membersG g b).any (fun k => doesX st X (gat g a) (gat g k)) = true ∨ ((gat g a).kind = 9 ∧ X (iat (gat g a).l 0, b) = true)) := by
  rw [← findX_some 0]
  unfold pickX
  cases hf : findX (fun k => doesX st X (gat g a) (gat g k)) 0 (membersG g b) with
  | some i => simp
  | none =>
    by_cases h9 : (gat g a).kind = 9
    · by_cases hx : X (iat (gat g a).l 0, b) = true
      · simp [h9, hx]
      · simp [h9, hx]
    · simp [h9]
theorem pickX_mono (h : ∀ q, X q = true → Y q = true) (a b : Int) (hp : pickX g st X a b ≠ -2) : pickX g st Y a b ≠ -2 := by
  rw [pickX_some] at hp ⊢
  rcases hp with hp | ⟨h9, hp⟩
  · refine .inl ?_
    rw [List.any_eq_true] at hp ⊢
    obtain ⟨x, hx, hd⟩ := hp
    exact ⟨x, hx, doesX_mono h _ _ hd⟩
  · exact .inr ⟨h9, h _ hp⟩
theorem holdsX_iff (p : Int × Int) : holdsX g st X p = true ↔ ∀ s ∈ membersG g p.1, pickX g st X s p.2 ≠ -2 := by
  unfold holdsX
  rw [findX_some, Bool.not_eq_true', List.any_eq_false]
  simp
theorem holdsX_mono (h : ∀ q, X q = true → Y q = true) (p : Int × Int) (hp : holdsX g st X p = true) : holdsX g st Y p = true := by
  rw [holdsX_iff] at hp ⊢
  exact fun s hs => pickX_mono h s p.2 (hp s hs)
/-! ### What is asked lies in the graph -/
def tableM (X : Int × Int → Bool) (U : List (Int × Int)) : PM := U.map fun q => (q, if X q then 1 else 0)
theorem getM_table (X : Int × Int → Bool) : ∀ (U : List (Int × Int)) (q : Int × Int), getM (tableM X U) q = if q ∈ U then some (if X q then 1 else 0) else none
  | [], q => by simp [tableM, getM]
  | u :: U, q => by
    have ih := getM_table X U q
    unfold tableM at ih ⊢
    simp only [List.map_cons, getM]
    by_cases h : u = q
    · subst h
      simp
    · rw [if_neg h, ih]
      have : ¬ q = u := fun e => h e.symm
      simp [this]
theorem grows_full {n : Nat} {m m' : PM} (h : Grows n m m') (hf : ∀ q, InG n q → ∃ v, getM m q = some v) : m' = m := by
  cases h with
  | refl => rfl
  | step h hq hn =>
    obtain ⟨v, hv⟩ := hf _ hn
    rw [h.keeps hv] at hq
    cases hq
theorem holdsX_congr (hok : GraphOk g) (h : ∀ q, InG g.length q → X q = Y q) {p : Int × Int} (hp : InG g.length p) : holdsX g st X p = holdsX g st Y p := by
  have key := holdsM_is (st := st) hok (tableM X (allP g.length)) hp
  have he := grows_full key.1 (fun q hq => ⟨_, by rw [getM_table, if_pos (mem_allP hq)]⟩)
  rw [he] at key
  have hX : FitsM X (tableM X (allP g.length)) := fun q v hq => by
    rw [getM_table] at hq
    split at hq
    · cases hq
      cases X q <;> rfl
    · cases hq
  have hY : FitsM Y (tableM X (allP g.length)) := fun q v hq => by
    rw [getM_table] at hq
    split at hq
    · rename_i hm
      have hin : InG g.length q := by
        unfold allP at hm
        rw [List.mem_flatMap] at hm
        obtain ⟨a, ha, hm⟩ := hm
        rw [List.mem_map] at hm
        obtain ⟨b, hb, rfl⟩ := hm
        rw [List.mem_range] at ha hb
        exact ⟨by simp, by simp; omega, by simp, by simp; omega⟩
      cases hq
      rw [← h q hin]
      cases X q <;> rfl
    · cases hq
  rw [key.2 X hX, key.2 Y hY]
/-! ### The greatest -/
def iterX (g : List GNode) (st : Bool) : Nat → Int × Int → Bool
  | 0 => fun _ => true
  | k + 1 => fun p => holdsX g st (iterX g st k) p
def mayX (g : List GNode) (st : Bool) : Int × Int → Bool := iterX g st (g.length * g.length + 1)
theorem iterX_down : ∀ (k : Nat) (q : Int × Int), iterX g st (k + 1) q = true → iterX g st k q = true
  | 0, _, _ => rfl
  | k + 1, q, h => holdsX_mono (fun p hp => iterX_down k p hp) q h
theorem iterX_great {R : Int × Int → Bool} (h : ∀ q, R q = true → holdsX g st R q = true) : ∀ (k : Nat) (q : Int × Int), R q = true → iterX g st k q = true
  | 0, _, _ => rfl
  | k + 1, q, hq => holdsX_mono (fun p hp => iterX_great h k p hp) q (h q hq)
theorem may_great {R : Int × Int → Bool} (h : ∀ q, R q = true → holdsX g st R q = true) {q : Int × Int} (hq : R q = true) : mayX g st q = true := iterX_great h _ q hq
def manyX (n : Nat) (X : Int × Int → Bool) : Nat := ((allP n).map fun q => if X q then 1 else 0).sum
theorem iterX_stands (hok : GraphOk g) {k : Nat} (h : ∀ q, InG g.length q → iterX g st (k + 1) q = iterX g st k q) : ∀ (j : Nat) (q : Int × Int), InG g.length q → iterX g st (k + j) q = iterX g st k q
  | 0, _, _ => rfl
  | j + 1, q, hq => by
    rw [← h q hq]
    show holdsX g st (iterX g st (k + j)) q = holdsX g st (iterX g st k) q
    exact holdsX_congr hok (fun p hp => iterX_stands hok h j p hp) hq
theorem iterX_many (hok : GraphOk g) : ∀ (k : Nat), (∃ j, j < k ∧ ∀ q, InG g.length q → iterX g st (j + 1) q = iterX g st j q) ∨ manyX g.length (iterX g st k) + k ≤ g.length * g.length
  | 0 => by
    refine .inr ?_
    have := sum_le (fun q => if iterX g st 0 q then 1 else 0) (fun _ => 1) (allP g.length) (fun q _ => by split <;> omega)
    have h2 : ((allP g.length).map fun _ => 1).sum = (allP g.length).length := by
      induction allP g.length with
      | nil => rfl
      | cons x r ih => simp [ih]; omega
    rw [h2, length_allP] at this
    exact this
  | k + 1 => by
    rcases iterX_many hok k with ⟨j, hj, h⟩ | h
    · exact .inl ⟨j, by omega, h⟩
    · by_cases he : ∀ q, InG g.length q → iterX g st (k + 1) q = iterX g st k q
      · exact .inl ⟨k, by omega, he⟩
      · refine .inr ?_
        have hex : ∃ q, InG g.length q ∧ iterX g st (k + 1) q ≠ iterX g st k q := by
          apply Classical.byContradiction
          intro hn
          exact he fun q hq => Classical.byContradiction fun h2 => hn ⟨q, hq, h2⟩
        obtain ⟨q, hq, hne⟩ := hex
        have := sum_lt (fun q => if iterX g st (k + 1) q then 1 else 0) (fun q => if iterX g st k q then 1 else 0) (allP g.length) (fun p _ => by
          have := iterX_down (g := g) (st := st) k p
          cases h1 : iterX g st (k + 1) p with
          | false => simp
          | true => rw [this h1]; simp) ⟨q, mem_allP hq, by
          have := iterX_down (g := g) (st := st) k q
          cases h1 : iterX g st (k + 1) q with
          | true => rw [this h1] at hne; exact absurd h1 hne
          | false =>
            cases h2 : iterX g st k q with
            | false => rw [h1, h2] at hne; exact absurd rfl hne
            | true => simp⟩
        unfold manyX at h ⊢
        omega
theorem may_fix (hok : GraphOk g) {p : Int × Int} (hp : InG g.length p) : mayX g st p = holdsX g st (mayX g st) p := by
  obtain ⟨j, hj, h⟩ : ∃ j, j < g.length * g.length + 1 ∧ ∀ q, InG g.length q → iterX g st (j + 1) q = iterX g st j q := by
    rcases iterX_many (st := st) hok (g.length * g.length + 1) with h | h
    · exact h
    · omega
  have hs := iterX_stands hok h
  have e1 : ∀ q, InG g.length q → mayX g st q = iterX g st j q := fun q hq => by
    have := hs (g.length * g.length + 1 - j) q hq
    rw [show j + (g.length * g.length + 1 - j) = g.length * g.length + 1 by omega] at this
    exact this
  rw [e1 p hp, holdsX_congr hok e1 hp]
  exact (h p hp).symm
/-! ### The solver's map -/
structure Inv (g : List GNode) (st : Bool) (m : PM) : Prop where
  inn : ∀ q v, getM m q = some v → InG g.length q ∧ (v = 0 ∨ v = 1)
  no : ∀ q, getM m q = some 0 → mayX g st q = false
  nodup : (m.map (·.1)).Nodup
theorem Inv.nil : Inv g st [] := ⟨fun q v h => by simp [getM] at h, fun q h => by simp [getM] at h, by simp⟩
variable {m m' : PM}
theorem Inv.grows (h : Inv g st m) (hg : Grows g.length m m') : Inv g st m' := by
  induction hg with
  | refl => exact h
  | @step m1 q hg hq hn ih =>
    refine ⟨fun p v hp => ?_, fun p hp => ?_, setM_nodup ih.nodup _ _⟩
    · rw [getM_setM] at hp
      split at hp
      · rename_i e
        subst e
        cases hp
        exact ⟨hn, .inr rfl⟩
      · exact ih.inn p v hp
    · rw [getM_setM] at hp
      split at hp
      · cases hp
      · exact ih.no p hp
theorem Inv.ok_fits (h : Inv g st m) : FitsM (fun q => decide (getM m q ≠ some 0)) m := fun q v hq => by
  rcases (h.inn q v hq).2 with rfl | rfl <;> simp [hq]
theorem Inv.take (h : Inv g st m) (hok : GraphOk g) {p : Int × Int} (hp : InG g.length p) (hX : ∀ X, FitsM X m → holdsX g st X p = false) : Inv g st (setM m p 0) := by
  have hno : mayX g st p = false := by
    rw [may_fix hok hp]
    cases hh : holdsX g st (mayX g st) p with
    | false => rfl
    | true =>
      have := holdsX_mono (Y := fun q => decide (getM m q ≠ some 0)) (fun q hq => by
        simp only [decide_eq_true_eq]
        intro e
        rw [h.no q e] at hq
        cases hq) p hh
      rw [hX _ h.ok_fits] at this
      cases this
  refine ⟨fun q v hq => ?_, fun q hq => ?_, setM_nodup h.nodup _ _⟩
  · rw [getM_setM] at hq
    split at hq
    · rename_i e
      subst e
      cases hq
      exact ⟨hp, .inl rfl⟩
    · exact h.inn q v hq
  · rw [getM_setM] at hq
    split at hq
    · rename_i e
      subst e
      exact hno
    · exact h.no q hq
theorem Inv.length (h : Inv g st m) : m.length ≤ g.length * g.length := by
  have := nodup_sub (allP g.length) (m.map (·.1)) h.nodup (fun q hq => by
    obtain ⟨v, hv⟩ := getM_of_mem hq
    exact mem_allP (h.inn q v hv).1)
  rw [length_allP, List.length_map] at this
  exact this
theorem left_take {m : PM} {n : Nat} {p : Int × Int} {v : Int} (hn : InG n p) (hp : getM m p = some v) (hv : 0 < v) : leftM n (setM m p 0) < leftM n m := by
  refine sum_lt _ _ _ (fun q _ => ?_) ⟨p, mem_allP hn, ?_⟩
  · rw [statM_set]
    split
    · simp
    · exact Nat.le_refl _
  · rw [statM_set, if_pos rfl]
    simp [statM, hp, hv]
/-- A map in which nothing is left to be taken away. -/
structure Solved (g : List GNode) (st : Bool) (m : PM) : Prop where
  inv : Inv g st m
  holds : ∀ p v, getM m p = some v → 0 < v → holdsM g st m p = (true, m)
theorem Solved.fits (h : Solved g st m) (hok : GraphOk g) : FitsM (mayX g st) m := by
  have hR : FitsM (fun q => decide (getM m q = some 1)) m := fun q v hq => by
    rcases (h.inv.inn q v hq).2 with rfl | rfl <;> simp [hq]
  intro q v hq
  rcases (h.inv.inn q v hq).2 with rfl | rfl
  · rw [h.inv.no q hq]
    rfl
  · refine may_great (R := fun q => decide (getM m q = some 1)) (fun p hp => ?_) (by simpa using hq)
    have hp1 : getM m p = some 1 := by simpa using hp
    have hh := h.holds p 1 hp1 (by decide)
    have := (holdsM_is (st := st) hok m (h.inv.inn p 1 hp1).1).2 _ (by rw [hh]; exact hR)
    rw [this, hh]
theorem membersG_one {n : Int} (h0 : 0 ≤ n) (h1 : n < g.length) (h8 : (gat g n).kind ≠ 8) : membersG g n = [n] := by
  unfold membersG
  rw [if_neg (by omega), if_neg h8]
theorem Solved.pick (h : Solved g st m) (hok : GraphOk g) {a b : Int} (hp : getM m (a, b) = some 1) (ha8 : (gat g a).kind ≠ 8) : pickM g st m a b = (pickX g st (mayX g st) a b, m) := by
  obtain ⟨h1, h2, h3, h4⟩ := (h.inv.inn _ _ hp).1
  simp only at h1 h2 h3 h4
  have hh := h.holds _ _ hp (by decide)
  unfold holdsM at hh
  simp only [membersG_one h1 h2 ha8] at hh
  have hm : (pickM g st m a b).2 = m := by
    unfold findS at hh
    split at hh
    · have := congrArg Prod.snd hh
      exact this
    · unfold findS at hh
      have := congrArg Prod.snd hh
      exact this
  have := (pickM_is (st := st) hok m h1 h2 ha8 ⟨h3, h4⟩).2 (mayX g st) (by rw [hm]; exact h.fits hok)
  rw [this]
  exact Prod.ext rfl hm
end
end Go.Proofs.YtndophlnapjkhaaDoor.Vc
