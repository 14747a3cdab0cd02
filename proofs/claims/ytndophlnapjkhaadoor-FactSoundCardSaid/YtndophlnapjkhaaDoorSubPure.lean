/- What the solver's map says, and the greatest relation that its rules allow: in plain Lean. Conditions: those of each statement. -/
import Derived.Test.YtndophlnapjkhaaDoorSub2
namespace Go.Proofs.YtndophlnapjkhaaDoor.Vc
open Go Go.RowKit
set_option linter.unusedVariables false
set_option linter.unusedSimpArgs false
/-! ### Maps -/
section
variable {κ ν : Type} [DecidableEq κ]
theorem getM_setM (m : List (κ × ν)) (k : κ) (v : ν) (q : κ) : getM (setM m k v) q = if k = q then some v else getM m q := by
  induction m with
  | nil =>
    by_cases h : k = q <;> simp [setM, getM, h]
  | cons p r ih =>
    by_cases hp : p.1 = k
    · subst hp
      by_cases h : p.1 = q <;> simp [setM, getM, h]
    · simp only [setM, hp, if_false, getM, ih]
      by_cases h : k = q
      · subst h
        simp [hp]
      · simp [h]
theorem getM_mem {m : List (κ × ν)} {q : κ} {v : ν} (h : getM m q = some v) : q ∈ m.map (·.1) := by
  induction m with
  | nil => simp [getM] at h
  | cons p r ih =>
    by_cases hp : p.1 = q
    · simp [hp]
    · simp only [getM, hp, if_false] at h
      simp only [List.map_cons, List.mem_cons]
      exact .inr (ih h)
theorem getM_of_mem {m : List (κ × ν)} {q : κ} (h : q ∈ m.map (·.1)) : ∃ v, getM m q = some v := by
  induction m with
  | nil => simp at h
  | cons p r ih =>
    by_cases hp : p.1 = q
    · exact ⟨p.2, by simp [getM, hp]⟩
    · simp only [List.map_cons, List.mem_cons] at h
      rcases h with h | h
      · exact absurd h.symm hp
      · obtain ⟨v, hv⟩ := ih h
        exact ⟨v, by simp [getM, hp, hv]⟩
theorem setM_keys' (m : List (κ × ν)) (k : κ) (v : ν) : (setM m k v).map (·.1) = if k ∈ m.map (·.1) then m.map (·.1) else m.map (·.1) ++ [k] := by
  induction m with
  | nil => rfl
  | cons p r ih =>
    by_cases hp : p.1 = k
    · simp [setM, hp]
    · simp only [setM, hp, if_false, List.map_cons, ih, List.mem_cons]
      have : ¬ k = p.1 := fun e => hp e.symm
      simp only [this, false_or]
      split <;> simp
theorem setM_nodup {m : List (κ × ν)} (h : (m.map (·.1)).Nodup) (k : κ) (v : ν) : ((setM m k v).map (·.1)).Nodup := by
  rw [setM_keys']
  split
  · exact h
  · rename_i hk
    rw [List.nodup_append]
    refine ⟨h, by simp, ?_⟩
    rintro a ha b hb rfl
    rw [List.mem_singleton] at hb
    subst hb
    exact hk ha
end
theorem nodup_sub {α : Type} [DecidableEq α] : ∀ (U l : List α), l.Nodup → (∀ x ∈ l, x ∈ U) → l.length ≤ U.length
  | [], l, _, h => by
    cases l with
    | nil => simp
    | cons x r => exact absurd (h x List.mem_cons_self) (by simp)
  | u :: U, l, hn, h => by
    have h1 := nodup_sub U (l.erase u) (hn.erase u) (fun x hx => by
      have hx2 := (hn.mem_erase_iff).1 hx
      rcases List.mem_cons.1 (h x hx2.2) with rfl | h3
      · exact absurd rfl hx2.1
      · exact h3)
    have h2 : l.length ≤ (l.erase u).length + 1 := by
      rw [List.length_erase]
      split <;> omega
    simp only [List.length_cons]
    omega
theorem sum_le {α : Type} (f g : α → Nat) : ∀ (U : List α), (∀ x ∈ U, f x ≤ g x) → (U.map f).sum ≤ (U.map g).sum
  | [], _ => by simp
  | u :: U, h => by
    have h1 := sum_le f g U (fun x hx => h x (List.mem_cons_of_mem _ hx))
    have h2 := h u List.mem_cons_self
    simp only [List.map_cons, List.sum_cons]
    omega
theorem sum_lt {α : Type} (f g : α → Nat) : ∀ (U : List α), (∀ x ∈ U, f x ≤ g x) → (∃ x ∈ U, f x < g x) → (U.map f).sum < (U.map g).sum
  | [], _, h => by simp at h
  | u :: U, h, hx => by
    have h1 := sum_le f g U (fun x hx => h x (List.mem_cons_of_mem _ hx))
    have h2 := h u List.mem_cons_self
    simp only [List.map_cons, List.sum_cons]
    obtain ⟨x, hm, hlt⟩ := hx
    rcases List.mem_cons.1 hm with rfl | hm
    · omega
    · have := sum_lt f g U (fun x hx => h x (List.mem_cons_of_mem _ hx)) ⟨x, hm, hlt⟩
      omega

/-! ### The pairs of a graph -/
def InG (n : Nat) (p : Int × Int) : Prop := 0 ≤ p.1 ∧ p.1 < n ∧ 0 ≤ p.2 ∧ p.2 < n
def allP (n : Nat) : List (Int × Int) := (List.range n).flatMap fun (a : Nat) => (List.range n).map fun (b : Nat) => ((a : Int), (b : Int))
theorem mem_allP {n : Nat} {p : Int × Int} (h : InG n p) : p ∈ allP n := by
  obtain ⟨a, b⟩ := p
  obtain ⟨h1, h2, h3, h4⟩ := h
  simp only at h1 h2 h3 h4
  unfold allP
  rw [List.mem_flatMap]
  refine ⟨a.toNat, List.mem_range.2 (by omega), ?_⟩
  rw [List.mem_map]
  exact ⟨b.toNat, List.mem_range.2 (by omega), by ext <;> simp <;> omega⟩
theorem length_allP (n : Nat) : (allP n).length = n * n := by
  unfold allP
  rw [List.length_flatMap]
  have : ∀ (l : List Nat), (l.map fun (_ : Nat) => n).sum = l.length * n := fun l => by
    induction l with
    | nil => simp
    | cons x r ih => simp [ih, Nat.add_mul]; omega
  simpa using this (List.range n)

/-! ### The rules, asked of a relation -/
section
variable (g : List GNode) (st : Bool) (X : Int × Int → Bool)
def recX (s : GNode) : List (ByteArray × Int) → Bool
  | [] => true
  | (key, tl) :: r => if idxV (idxS s.keys key) < 0 then false else X (iat s.l (idxV (idxS s.keys key)), tl) && recX s r
def ruleX (s t : GNode) : Bool :=
  if s.kind = 5 then decide (s.name = t.name) else if s.kind = 7 then recX X s (t.keys.zip t.l) else if s.kind = 9 then (if s.num = t.num then X (iat s.l 0, iat t.l 0) else false) else true
def doesX (s t : GNode) : Bool := if s.kind = 1 ∨ t.kind = 1 then !st || decide (s.kind = t.kind) else if s.kind = t.kind then ruleX X s t else false
/-- The first place, from k on, at which a test says yes. -/
def findX {α : Type} (p : α → Bool) : Nat → List α → Option Nat
  | _, [] => none
  | k, x :: r => if p x then some k else findX p (k + 1) r
def pickX (a b : Int) : Int :=
  match findX (fun k => doesX st X (gat g a) (gat g k)) 0 (membersG g b) with
  | some i => i
  | none => if (gat g a).kind = 9 then (if X (iat (gat g a).l 0, b) then -1 else -2) else -2
def holdsX (p : Int × Int) : Bool := !(findX (fun s => decide (pickX g st X s p.2 = -2)) 0 (membersG g p.1)).isSome
end
/-- A relation says of known pairs what the map says. -/
def FitsM (X : Int × Int → Bool) (m : PM) : Prop := ∀ q v, getM m q = some v → X q = decide (0 < v)
/-- A map to which pairs were added that are taken for granted. -/
inductive Grows (n : Nat) : PM → PM → Prop
  | refl (m : PM) : Grows n m m
  | step {m m' : PM} {q : Int × Int} (h : Grows n m m') (hq : getM m' q = none) (hn : InG n q) : Grows n m (setM m' q 1)
section
variable {n : Nat} {m m' m'' : PM}
theorem Grows.trans (h : Grows n m m') (k : Grows n m' m'') : Grows n m m'' := by
  induction k with
  | refl => exact h
  | step _ hq hn ih => exact .step ih hq hn
theorem Grows.keeps (h : Grows n m m') {q : Int × Int} {v : Int} (hq : getM m q = some v) : getM m' q = some v := by
  induction h with
  | refl => exact hq
  | step _ hn _ ih =>
    rw [getM_setM]
    split
    · rename_i e
      subst e
      rw [ih] at hn
      cases hn
    · exact ih
theorem Grows.new (h : Grows n m m') {q : Int × Int} (hq : getM m q = none) : getM m' q = none ∨ getM m' q = some 1 := by
  induction h with
  | refl => exact .inl hq
  | step _ hn _ ih =>
    rw [getM_setM]
    split
    · exact .inr rfl
    · exact ih
theorem Grows.fits (h : Grows n m m') {X : Int × Int → Bool} (hX : FitsM X m') : FitsM X m := fun q v hq => hX q v (h.keeps hq)
theorem length_setM_none {m : PM} {q : Int × Int} {v : Int} (h : getM m q = none) : (setM m q v).length = m.length + 1 := by
  rw [length_setM, idxM_none.2 h]
  rfl
theorem Grows.le (h : Grows n m m') : m.length ≤ m'.length := by
  induction h with
  | refl => exact Nat.le_refl _
  | step _ hn _ ih => rw [length_setM_none hn]; omega
theorem Grows.eq (h : Grows n m m') (hl : m.length = m'.length) : m' = m := by
  cases h with
  | refl => rfl
  | step h hn _ =>
    rw [length_setM_none hn] at hl
    have := h.le
    omega
/-- How much may yet be found out of a pair. -/
def statM (m : PM) (q : Int × Int) : Nat := match getM m q with | none => 2 | some v => if 0 < v then 1 else 0
def leftM (n : Nat) (m : PM) : Nat := ((allP n).map (statM m)).sum
theorem statM_set (m : PM) (q p : Int × Int) (v : Int) : statM (setM m q v) p = if q = p then (if 0 < v then 1 else 0) else statM m p := by
  unfold statM
  rw [getM_setM]
  by_cases e : q = p
  · rw [if_pos e, if_pos e]
  · rw [if_neg e, if_neg e]
theorem Grows.left (h : Grows n m m') : leftM n m' ≤ leftM n m := by
  refine sum_le _ _ _ fun q _ => ?_
  unfold statM
  cases hq : getM m q with
  | none =>
    rcases h.new hq with h1 | h1 <;> rw [h1] <;> decide
  | some v => rw [h.keeps hq]; exact Nat.le_refl _
theorem Grows.left_lt (h : Grows n m m') (hl : m.length ≠ m'.length) : leftM n m' < leftM n m := by
  cases h with
  | refl => exact absurd rfl hl
  | @step m1 q h hq hn =>
    refine Nat.lt_of_lt_of_le (sum_lt _ _ _ (fun p _ => ?_) ⟨q, mem_allP hn, ?_⟩) h.left
    · rw [statM_set]
      split
      · rename_i e
        subst e
        simp [statM, hq]
      · exact Nat.le_refl _
    · rw [statM_set, if_pos rfl]
      simp [statM, hq]
end
/-! ### What the functions give is what the rules say of any relation that fits -/
section
variable {g : List GNode} {st : Bool}
theorem grant_is {n : Nat} (m : PM) (p : Int × Int) (hp : InG n p) : Grows n m (grant m p).2 ∧ ∀ X, FitsM X (grant m p).2 → X p = (grant m p).1 := by
  unfold grant
  cases h : getM m p with
  | none =>
    refine ⟨.step (.refl m) h hp, fun X hX => ?_⟩
    have := hX p 1 (by rw [getM_setM, if_pos rfl])
    rw [this]
    rfl
  | some v => exact ⟨.refl m, fun X hX => hX p v h⟩
theorem recM_is (s : GNode) (hs : ∀ k ∈ s.l, 0 ≤ k ∧ k < (g.length : Int)) (hsl : s.l.length = s.keys.length) : ∀ (items : List (ByteArray × Int)) (m : PM), (∀ x ∈ items, 0 ≤ x.2 ∧ x.2 < (g.length : Int)) → Grows g.length m (recM s m items).2 ∧ ∀ X, FitsM X (recM s m items).2 → recX X s items = (recM s m items).1
  | [], m, _ => ⟨.refl m, fun X _ => rfl⟩
  | (key, tl) :: r, m, h => by
    have h0 := h (key, tl) List.mem_cons_self
    unfold recM
    by_cases hi : idxV (idxS s.keys key) < 0
    · rw [if_pos hi]
      exact ⟨.refl m, fun X _ => by rw [recX, if_pos hi]⟩
    · rw [if_neg hi]
      have hlt := idxS_lt s.keys key
      have hin := hs (iat s.l (idxV (idxS s.keys key))) (by
        have := iat_nat (l := s.l) (k := (idxV (idxS s.keys key)).toNat) (by omega)
        rw [Int.toNat_of_nonneg (by omega)] at this
        exact List.mem_of_getElem? this)
      have hg := grant_is m (iat s.l (idxV (idxS s.keys key)), tl) (n := g.length) ⟨hin.1, hin.2, h0.1, h0.2⟩
      cases hb : (grant m (iat s.l (idxV (idxS s.keys key)), tl)).1 with
      | false =>
        rw [if_neg (by simp)]
        refine ⟨hg.1, fun X hX => ?_⟩
        have := hg.2 X hX
        rw [hb] at this
        rw [recX, if_neg hi, this]
        rfl
      | true =>
        rw [if_pos rfl]
        have ih := recM_is s hs hsl r (grant m (iat s.l (idxV (idxS s.keys key)), tl)).2 (fun x hx => h x (List.mem_cons_of_mem _ hx))
        refine ⟨hg.1.trans ih.1, fun X hX => ?_⟩
        have := hg.2 X (ih.1.fits hX)
        rw [hb] at this
        rw [recX, if_neg hi, this, ih.2 X hX]
        rfl
/-- A node of the graph, as what it is made of is asked for. -/
structure SideOk (g : List GNode) (s : GNode) : Prop where
  inn : ∀ k ∈ s.l, 0 ≤ k ∧ k < (g.length : Int)
  plain : PlainN s
theorem SideOk.of (h : GraphOk g) {s : GNode} (hs : s ∈ g) (h8 : s.kind ≠ 8) : SideOk g s := ⟨fun k hk => h.inn hs hk, (h.is hs).plain h8⟩
theorem SideOk.rcd {s : GNode} (h : SideOk g s) (h7 : s.kind = 7) : s.l.length = s.keys.length := by
  rcases h.plain with k | k | k | k | k | ⟨k, hk⟩ | ⟨k, hk⟩ <;> first | exact hk | omega
theorem SideOk.var {s : GNode} (h : SideOk g s) (h9 : s.kind = 9) : s.l.length = 1 := by
  rcases h.plain with k | k | k | k | k | ⟨k, hk⟩ | ⟨k, hk⟩ <;> first | exact hk | omega
theorem SideOk.first {s : GNode} (h : SideOk g s) (h9 : s.kind = 9) : 0 ≤ iat s.l 0 ∧ iat s.l 0 < (g.length : Int) :=
  h.inn _ (List.mem_of_getElem? (iat_nat (l := s.l) (k := 0) (by rw [h.var h9]; decide)))
theorem doesM_is (m : PM) {s t : GNode} (hs : SideOk g s) (ht : SideOk g t) : Grows g.length m (doesM st m s t).2 ∧ ∀ X, FitsM X (doesM st m s t).2 → doesX st X s t = (doesM st m s t).1 := by
  unfold doesM
  by_cases h1 : s.kind = 1 ∨ t.kind = 1
  · rw [if_pos h1]
    exact ⟨.refl m, fun X _ => by unfold doesX; rw [if_pos h1]⟩
  · rw [if_neg h1]
    by_cases h2 : s.kind = t.kind
    · rw [if_pos h2]
      have key : Grows g.length m (ruleM m s t).2 ∧ ∀ X, FitsM X (ruleM m s t).2 → ruleX X s t = (ruleM m s t).1 := by
        unfold ruleM
        by_cases h5 : s.kind = 5
        · rw [if_pos h5]
          exact ⟨.refl m, fun X _ => by unfold ruleX; rw [if_pos h5]⟩
        · rw [if_neg h5]
          by_cases h7 : s.kind = 7
          · rw [if_pos h7]
            have := recM_is s hs.inn (hs.rcd h7) (t.keys.zip t.l) m (fun x hx => ht.inn x.2 (List.of_mem_zip (show (x.1, x.2) ∈ t.keys.zip t.l from hx)).2)
            exact ⟨this.1, fun X hX => by unfold ruleX; rw [if_neg h5, if_pos h7]; exact this.2 X hX⟩
          · rw [if_neg h7]
            by_cases h9 : s.kind = 9
            · rw [if_pos h9]
              by_cases hn : s.num = t.num
              · rw [if_pos hn]
                have := grant_is m (iat s.l 0, iat t.l 0) (n := g.length) ⟨(hs.first h9).1, (hs.first h9).2, (ht.first (h2 ▸ h9)).1, (ht.first (h2 ▸ h9)).2⟩
                exact ⟨this.1, fun X hX => by unfold ruleX; rw [if_neg h5, if_neg h7, if_pos h9, if_pos hn]; exact this.2 X hX⟩
              · rw [if_neg hn]
                exact ⟨.refl m, fun X _ => by unfold ruleX; rw [if_neg h5, if_neg h7, if_pos h9, if_neg hn]⟩
            · rw [if_neg h9]
              exact ⟨.refl m, fun X _ => by unfold ruleX; rw [if_neg h5, if_neg h7, if_neg h9]⟩
      exact ⟨key.1, fun X hX => by unfold doesX; rw [if_neg h1, if_pos h2]; exact key.2 X hX⟩
    · rw [if_neg h2]
      exact ⟨.refl m, fun X _ => by unfold doesX; rw [if_neg h1, if_neg h2]⟩
theorem findS_is {α : Type} (p : PM → α → Bool × PM) (q : (Int × Int → Bool) → α → Bool) : ∀ (l : List α) (k : Nat) (m : PM), (∀ x ∈ l, ∀ m, Grows g.length m (p m x).2 ∧ ∀ X, FitsM X (p m x).2 → q X x = (p m x).1) →
    Grows g.length m (findS p k m l).2 ∧ ∀ X, FitsM X (findS p k m l).2 → findX (q X) k l = (findS p k m l).1
  | [], k, m, _ => ⟨.refl m, fun X _ => rfl⟩
  | x :: r, k, m, h => by
    have h1 := h x List.mem_cons_self m
    unfold findS
    cases hb : (p m x).1 with
    | true =>
      rw [if_pos rfl]
      refine ⟨h1.1, fun X hX => ?_⟩
      rw [findX, h1.2 X hX, hb]
      rfl
    | false =>
      rw [if_neg (by simp)]
      have ih := findS_is p q r (k + 1) (p m x).2 (fun x hx => h x (List.mem_cons_of_mem _ hx))
      refine ⟨h1.1.trans ih.1, fun X hX => ?_⟩
      rw [findX, h1.2 X (ih.1.fits hX), hb]
      exact ih.2 X hX
theorem pickM_is (hok : GraphOk g) (m : PM) {a b : Int} (ha : 0 ≤ a) (han : a < g.length) (ha8 : (gat g a).kind ≠ 8) (hb : 0 ≤ b ∧ b < g.length) : Grows g.length m (pickM g st m a b).2 ∧ ∀ X, FitsM X (pickM g st m a b).2 → pickX g st X a b = (pickM g st m a b).1 := by
  have hs := SideOk.of hok (gat_mem' ha han) ha8
  have key := findS_is (fun m k => doesM st m (gat g a) (gat g k)) (fun X k => doesX st X (gat g a) (gat g k)) (membersG g b) 0 m (fun k hk m => by
    obtain ⟨h1, h2, h3⟩ := hok.members hk
    exact doesM_is m hs (SideOk.of hok (gat_mem' h1 h2) h3))
  unfold pickM
  cases hf : findS (fun m k => doesM st m (gat g a) (gat g k)) 0 m (membersG g b) with
  | mk o m1 =>
    rw [hf] at key
    cases o with
    | some i => exact ⟨key.1, fun X hX => by unfold pickX; rw [key.2 X hX]⟩
    | none =>
      simp only
      by_cases h9 : (gat g a).kind = 9
      · rw [if_pos h9]
        have hgr := grant_is m1 (iat (gat g a).l 0, b) (n := g.length) ⟨(hs.first h9).1, (hs.first h9).2, hb.1, hb.2⟩
        cases hgb : (grant m1 (iat (gat g a).l 0, b)).1 with
        | true =>
          rw [if_pos rfl]
          refine ⟨key.1.trans hgr.1, fun X hX => ?_⟩
          unfold pickX
          rw [key.2 X (hgr.1.fits hX)]
          simp only
          rw [if_pos h9, hgr.2 X hX, hgb]
          rfl
        | false =>
          rw [if_neg (by simp)]
          refine ⟨key.1.trans hgr.1, fun X hX => ?_⟩
          unfold pickX
          rw [key.2 X (hgr.1.fits hX)]
          simp only
          rw [if_pos h9, hgr.2 X hX, hgb]
          rfl
      · rw [if_neg h9]
        refine ⟨key.1, fun X hX => ?_⟩
        unfold pickX
        rw [key.2 X hX]
        simp only
        rw [if_neg h9]
theorem holdsM_is (hok : GraphOk g) (m : PM) {p : Int × Int} (hp : InG g.length p) : Grows g.length m (holdsM g st m p).2 ∧ ∀ X, FitsM X (holdsM g st m p).2 → holdsX g st X p = (holdsM g st m p).1 := by
  have key := findS_is (fun m s => (decide ((pickM g st m s p.2).1 = -2), (pickM g st m s p.2).2)) (fun X s => decide (pickX g st X s p.2 = -2)) (membersG g p.1) 0 m (fun s hs m => by
    obtain ⟨h1, h2, h3⟩ := hok.members hs
    have := pickM_is (st := st) hok m h1 h2 h3 ⟨hp.2.2.1, hp.2.2.2⟩
    exact ⟨this.1, fun X hX => by rw [this.2 X hX]⟩)
  refine ⟨key.1, fun X hX => ?_⟩
  unfold holdsX
  rw [key.2 X hX]
  rfl
end
end Go.Proofs.YtndophlnapjkhaaDoor.Vc
