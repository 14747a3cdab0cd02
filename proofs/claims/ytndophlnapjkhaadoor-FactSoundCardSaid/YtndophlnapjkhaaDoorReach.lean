/- Facts that a fact goes on to: gone through in a queue. In plain Lean. Conditions: those of each statement. -/
import Derived.Test.YtndophlnapjkhaaDoorFact10
import Derived.Test.YtndophlnapjkhaaDoorQueue
namespace Go.Proofs.YtndophlnapjkhaaDoor.Vc
open Go Go.RowKit
set_option linter.unusedVariables false
inductive Reach (g : List GNode) (l : List Fact) (k : Int) : Int → Prop
  | refl : Reach g l k k
  | step {i j : Int} (h : Reach g l k i) (hj : j ∈ onF g (fat l i)) : Reach g l k j
def dynB (g : List GNode) (n : Int) : Bool := decide ((gat g n).kind = 1)
def hereF (g : List GNode) (l : List Fact) (i : Int) : Bool := dynB g (fat l i).a && !(membersG g (fat l i).b).any (dynB g)
structure BfsIn (g : List GNode) (l : List Fact) (k : Int) (m : List (Int × Int)) (q : List Int) (i0 : Option (Int × Nat)) : Prop where
  vals : ∀ i v, getM m i = some v → v = 1 ∧ 0 ≤ i ∧ i < l.length ∧ Reach g l k i
  start : getM m k ≠ none
  queue : ∀ i ∈ q, getM m i ≠ none
  done : ∀ i, getM m i ≠ none → i ∉ q → (∀ n, i0 ≠ some (i, n)) → hereF g l i = false ∧ ∀ j ∈ onF g (fat l i), getM m j ≠ none
  cur : ∀ i n, i0 = some (i, n) → getM m i ≠ none ∧ hereF g l i = false ∧ ∀ j ∈ (onF g (fat l i)).take n, getM m j ≠ none
section
variable {g : List GNode} {l : List Fact} {k : Int} {m : List (Int × Int)} {q : List Int}
theorem Bfs.begin (h0 : 0 ≤ k) (h1 : k < l.length) : BfsIn g l k [(k, 1)] [k] none := by
  have hg : ∀ i, getM [(k, (1 : Int))] i = if k = i then some 1 else none := fun i => by simp [getM]
  refine ⟨fun i v h => ?_, ?_, fun i hi => ?_, fun i hi hq _ => ?_, fun i n h => by cases h⟩
  · rw [hg] at h
    split at h
    · rename_i e
      subst e
      cases h
      exact ⟨rfl, h0, h1, .refl⟩
    · cases h
  · rw [hg, if_pos rfl]
    simp
  · rw [List.mem_singleton] at hi
    subst hi
    rw [hg, if_pos rfl]
    simp
  · rw [hg] at hi
    split at hi
    · rename_i e
      subst e
      exact absurd (List.mem_singleton.2 rfl) hq
    · exact absurd rfl hi
theorem BfsIn.pop {i : Int} (h : BfsIn g l k m (i :: q) none) (hn : hereF g l i = false) : BfsIn g l k m q (some (i, 0)) :=
  ⟨h.vals, h.start, fun j hj => h.queue j (List.mem_cons_of_mem _ hj), fun j hj hq hc => h.done j hj (fun hm => by
    rcases List.mem_cons.1 hm with rfl | hm
    · exact hc 0 rfl
    · exact hq hm) (fun n e => by cases e), fun j n e => by
    cases e
    exact ⟨h.queue i List.mem_cons_self, hn, fun j hj => by simp at hj⟩⟩
theorem known_setI {m : List (Int × Int)} {x i v : Int} (h : getM m i ≠ none) : getM (setM m x v) i ≠ none := by
  rw [getM_setM]
  split
  · simp
  · exact h
theorem BfsIn.seen {i : Int} {n : Nat} {x : Int} (h : BfsIn g l k m q (some (i, n))) (hx : (onF g (fat l i))[n]? = some x) (hk : getM m x ≠ none) : BfsIn g l k m q (some (i, n + 1)) :=
  ⟨h.vals, h.start, h.queue, fun j hj hq hc => h.done j hj hq (fun n' e => by
    cases e
    exact hc (n + 1) rfl), fun j n' e => by
    cases e
    obtain ⟨h1, h2, h3⟩ := h.cur i n rfl
    refine ⟨h1, h2, fun j hj => ?_⟩
    rw [List.take_add_one, hx] at hj
    rcases List.mem_append.1 hj with hj | hj
    · exact h3 j hj
    · have : j = x := by simpa using hj
      subst this
      exact hk⟩
theorem BfsIn.new {i : Int} {n : Nat} {x : Int} (h : BfsIn g l k m q (some (i, n))) (hx : (onF g (fat l i))[n]? = some x) (hin : 0 ≤ x ∧ x < l.length) : BfsIn g l k (setM m x 1) (q ++ [x]) (some (i, n + 1)) := by
  have hcur := h.cur i n rfl
  have hreach : Reach g l k x := by
    cases hv : getM m i with
    | none => exact absurd hv hcur.1
    | some v => exact .step (h.vals i v hv).2.2.2 (List.mem_of_getElem? hx)
  refine ⟨fun j v hj => ?_, known_setI h.start, fun j hj => ?_, fun j hj hq hc => ?_, fun j n' e => ?_⟩
  · rw [getM_setM] at hj
    split at hj
    · rename_i e
      subst e
      cases hj
      exact ⟨rfl, hin.1, hin.2, hreach⟩
    · exact h.vals j v hj
  · rcases List.mem_append.1 hj with hj | hj
    · exact known_setI (h.queue j hj)
    · rw [List.mem_singleton] at hj
      subst hj
      rw [getM_setM, if_pos rfl]
      simp
  · have hjx : ¬ x = j := fun e => hq (by subst e; simp)
    rw [getM_setM, if_neg hjx] at hj
    obtain ⟨h1, h2⟩ := h.done j hj (fun hm => hq (List.mem_append_left _ hm)) (fun n' e => by
      cases e
      exact hc (n + 1) rfl)
    exact ⟨h1, fun y hy => known_setI (h2 y hy)⟩
  · cases e
    refine ⟨known_setI hcur.1, hcur.2.1, fun j hj => ?_⟩
    rw [List.take_add_one, hx] at hj
    rcases List.mem_append.1 hj with hj | hj
    · exact known_setI (hcur.2.2 j hj)
    · have : j = x := by simpa using hj
      subst this
      rw [getM_setM, if_pos rfl]
      simp
theorem BfsIn.finish {i : Int} (h : BfsIn g l k m q (some (i, (onF g (fat l i)).length))) : BfsIn g l k m q none :=
  ⟨h.vals, h.start, h.queue, fun j hj hq _ => by
    by_cases e : i = j
    · subst e
      obtain ⟨h1, h2, h3⟩ := h.cur i _ rfl
      exact ⟨h2, fun y hy => h3 y (by rw [List.take_length]; exact hy)⟩
    · exact h.done j hj hq (fun n e' => by cases e'; exact e rfl), fun j n e => by cases e⟩
theorem BfsIn.all (h : BfsIn g l k m [] none) {j : Int} (hj : Reach g l k j) : getM m j ≠ none ∧ hereF g l j = false := by
  have key : getM m j ≠ none := by
    induction hj with
    | refl => exact h.start
    | step _ hj ih => exact (h.done _ ih (by simp) (fun n e => by cases e)).2 _ hj
  exact ⟨key, (h.done j key (by simp) (fun n e => by cases e)).1⟩
/-- How many facts may yet be seen. -/
def unseen (n : Nat) (m : List (Int × Int)) : Nat := ((List.range n).map fun (i : Nat) => if (getM m (i : Int)).isSome then 0 else 1).sum
theorem unseen_new {n : Nat} {x : Int} {m : List (Int × Int)} (hx : getM m x = none) (h0 : 0 ≤ x) (h1 : x < n) : unseen n (setM m x 1) < unseen n m := by
  refine sum_lt _ _ _ (fun i _ => ?_) ⟨x.toNat, List.mem_range.2 (by omega), ?_⟩
  · rw [getM_setM]
    split <;> simp
  · rw [Int.toNat_of_nonneg h0, getM_setM, if_pos rfl, hx]
    simp
end
end Go.Proofs.YtndophlnapjkhaaDoor.Vc
