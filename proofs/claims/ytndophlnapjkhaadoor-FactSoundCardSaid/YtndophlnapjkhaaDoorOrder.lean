/- Texts in order; the place of a key among keys that rise. Conditions: none. -/
import Derived.Test.YtndophlnapjkhaaDoorSub5
namespace Go.Proofs.YtndophlnapjkhaaDoor.Vc
open Go Go.RowKit
set_option linter.unusedVariables false
theorem bLess_is : ∀ (a b : List UInt8), Op.bytesLess a b = decide (a < b)
  | [], [] => by simp [Op.bytesLess]
  | _ :: _, [] => by simp [Op.bytesLess]
  | [], _ :: _ => by simp [Op.bytesLess]
  | a :: r, b :: q => by
    simp only [Op.bytesLess, bLess_is r q, List.cons_lt_cons_iff]
    by_cases e1 : a < b <;> by_cases e2 : a = b <;> by_cases e3 : r < q <;> simp [e1, e2, e3]
theorem ltB_eq (a b : ByteArray) : ltB a b = decide (a.toList < b.toList) := bLess_is _ _
theorem ltB_irrefl (a : ByteArray) : ltB a a = false := by
  rw [ltB_eq]
  exact decide_eq_false (List.lt_irrefl _)
theorem ltB_trans {a b c : ByteArray} (h : ltB a b = true) (k : ltB b c = true) : ltB a c = true := by
  rw [ltB_eq] at *
  exact decide_eq_true (List.lt_trans (of_decide_eq_true h) (of_decide_eq_true k))
theorem toList_inj {a b : ByteArray} (h : a.toList = b.toList) : a = b := by
  rw [ByteArray.toList_eq, ByteArray.toList_eq] at h
  exact ByteArray.ext (Array.toList_inj.1 h)
theorem ltB_or {a b : ByteArray} (hne : a ≠ b) (h : ltB a b = false) : ltB b a = true := by
  rw [ltB_eq] at *
  have h1 : ¬ a.toList < b.toList := of_decide_eq_false h
  refine decide_eq_true ?_
  have h2 : b.toList ≤ a.toList := List.not_lt.1 h1
  rcases List.le_iff_lt_or_eq.1 h2 with h3 | h3
  · exact h3
  · exact absurd (toList_inj h3.symm) hne
def kat (l : List ByteArray) (i : Nat) : ByteArray := l.getD i ByteArray.empty
theorem rises_next {l : List ByteArray} (h : risesB l = true) {i : Nat} (h0 : 0 < i) (hi : i < l.length) : ltB (kat l (i - 1)) (kat l i) = true := by
  unfold risesB at h
  have h1 := List.all_eq_true.1 h i (List.mem_range.2 hi)
  have h2 : ¬ cmp2 (kat l i) (kat l (i - 1)) < 0 := by
    intro h3
    have h4 : ¬ i = 0 := by omega
    unfold kat at h3
    simp only [h3, h4, decide_true, decide_false] at h1
    cases h1
  unfold cmp2 cmpB at h2
  split at h2
  · exact absurd (by decide) h2
  · rename_i hne
    split at h2
    · exact absurd (by decide) h2
    · rename_i hlt
      exact ltB_or hne (by simpa using hlt)
theorem rises_lt {l : List ByteArray} (h : risesB l = true) : ∀ (d i : Nat), i + d + 1 < l.length → ltB (kat l i) (kat l (i + d + 1)) = true
  | 0, i, hi => rises_next h (i := i + 1) (by omega) hi
  | d + 1, i, hi => ltB_trans (rises_lt h d i (by omega)) (rises_next h (i := i + (d + 1) + 1) (by omega) hi)
theorem rises_all {l : List ByteArray} (h : risesB l = true) {i j : Nat} (hij : i < j) (hj : j < l.length) : ltB (kat l i) (kat l j) = true := by
  have := rises_lt h (j - i - 1) i (by omega)
  rwa [show i + (j - i - 1) + 1 = j by omega] at this
theorem findS_at {α : Type} (p : α → Bool) : ∀ (k : Nat) (l : List α) (i : Nat) (x : α), l[i]? = some x → p x = true → (∀ j y, j < i → l[j]? = some y → p y = false) → (findS (fun (_ : Unit) x => (p x, ())) k () l).1 = some (k + i)
  | k, y :: r, 0, x, h, hp, _ => by
    have : y = x := by simpa using h
    subst this
    simp [findS, hp]
  | k, y :: r, i + 1, x, h, hp, hn => by
    have hy := hn 0 y (by omega) (by simp)
    simp only [findS, hy, Bool.false_eq_true, if_false]
    have := findS_at p (k + 1) r i x (by simpa using h) hp (fun j z hj hz => hn (j + 1) z (by omega) (by simpa using hz))
    rw [this, show k + 1 + i = k + (i + 1) by omega]
  | _, [], _, _, h, _, _ => by simp at h
theorem findS_no {α : Type} (p : α → Bool) : ∀ (k : Nat) (l : List α), (∀ x ∈ l, p x = false) → (findS (fun (_ : Unit) x => (p x, ())) k () l).1 = none
  | _, [], _ => rfl
  | k, x :: r, h => by
    have hx := h x List.mem_cons_self
    simp only [findS, hx, Bool.false_eq_true, if_false]
    exact findS_no p (k + 1) r (fun y hy => h y (List.mem_cons_of_mem _ hy))
theorem kat_some {l : List ByteArray} {i : Nat} (h : i < l.length) : l[i]? = some (kat l i) := by
  unfold kat
  rw [List.getD_eq_getElem?_getD, List.getElem?_eq_getElem h]
  rfl
theorem idxS_yes {l : List ByteArray} {s : ByteArray} {i : Nat} (hi : i < l.length) (hb : ∀ j, j < i → ltB (kat l j) s = true) (he : kat l i = s) : idxS l s = some i := by
  have := findS_at (fun x => decide (s = x)) 0 l i _ (kat_some hi) (by simp [he]) (fun j y hj hy => by
    have h1 := hb j hj
    rw [kat_some (by omega)] at hy
    cases hy
    refine decide_eq_false fun e => ?_
    rw [← e, ltB_irrefl] at h1
    cases h1)
  rw [Nat.zero_add] at this
  exact this
theorem idxS_no {l : List ByteArray} {s : ByteArray} {i : Nat} (hr : risesB l = true) (hb : ∀ j, j < i → ltB (kat l j) s = true) (ha : ∀ j, i ≤ j → j < l.length → ltB (kat l j) s = false) (hn : i < l.length → kat l i ≠ s) : idxS l s = none := by
  refine findS_no (fun x => decide (s = x)) 0 l (fun x hx => decide_eq_false fun e => ?_)
  obtain ⟨j, hj⟩ := List.mem_iff_getElem?.1 hx
  have hl := (List.getElem?_eq_some_iff.1 hj).1
  rw [kat_some hl] at hj
  cases hj
  rcases Nat.lt_trichotomy j i with h | h | h
  · have h1 := hb j h
    rw [← e, ltB_irrefl] at h1
    cases h1
  · subst h
    exact hn hl e.symm
  · have h1 := rises_all hr h hl
    have h2 := ha i (Nat.le_refl _) (by omega)
    rw [← e, h2] at h1
    cases h1
section
variable {P : Program} {w : World} {ρ : Operand → Value} {o : Oper}
theorem r_shr1 {x y : Operand} {t t' : TypeId} {k ky : IntKind} {a : Int} (h : o.op = .binOp .shr t x y t') (hx : ρ x = .int k a) (hy : ρ y = .int ky 1) (hk : 1 ≤ k.bits) : (execOp ρ o).run P w = .ok (.value (.int k (a.fdiv 2))) w := by
  have hm : min 1 k.bits = 1 := Nat.min_eq_left hk
  simp [execOp, h, hx, hy, eqGuard, binOp, Op.shift, hm]
end
end Go.Proofs.YtndophlnapjkhaaDoor.Vc
