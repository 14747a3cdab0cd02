/- Functions handed to functions: what a test of elements gives, with what it turns; the first element that meets it. Conditions: none. -/
import Derived.Test.YtndophlnapjkhaaDoorGraphRep
namespace Go.Proofs.YtndophlnapjkhaaDoor.Vc
open Go Go.RowKit
/-- The first place (from k on) at which a test says yes, and what is held behind it. -/
def findS {σ α : Type} (p : σ → α → Bool × σ) : Nat → σ → List α → Option Nat × σ
  | _, s, [] => (none, s)
  | k, s, x :: r => if (p s x).1 then (some k, (p s x).2) else findS p (k + 1) (p s x).2 r
def idxV : Option Nat → Int
  | some k => k
  | none => -1
theorem idxV_ge (o : Option Nat) : decide (0 ≤ idxV o) = o.isSome := by
  cases o with
  | none => rfl
  | some k => simp [idxV]
/-- A function value: a test of x, that stands as v in world W if D W v x; s: what is held, St; T: what it may turn. -/
def Tests {σ α : Type} (P : Program) (St : σ → World → Prop) (T : Nat → Prop) (D : World → Value → α → Prop) (p : σ → α → Bool × σ) (fv : Value) : Prop :=
  ∃ g fs cs fn c, fv = .func (.func g) fs cs ∧ P.funcs[g]? = some fn ∧ (fn.name == "runtime.NumGoroutine") = false ∧ fn.body = some c ∧
    ∀ s x v W, St s W → D W v x → Calls P g (fs.toList ++ ([v] ++ cs.toList)).toArray W fun en w' => en = .returned (.bool (p s x).1) ∧ Ext T W w' ∧ St (p s x).2 w'
/-- One cell; several. -/
def D1 {α : Type} (R : World → α → List Value → Prop) (W : World) (v : Value) (x : α) : Prop := R W x [v]
def DN {α : Type} (R : World → α → List Value → Prop) (sz : Nat) (W : World) (v : Value) (x : α) : Prop := ∃ cs, cs.length = sz ∧ R W x cs ∧ v = .agg cs.toArray
theorem findS_pure {α : Type} (p : α → Bool) (s : Unit) : ∀ (k : Nat) (l : List α), (findS (fun _ x => (p x, ())) k s l).1.isSome = l.any p
  | _, [] => rfl
  | k, x :: r => by
    simp only [findS, List.any_cons]
    cases h : p x with
    | true => simp
    | false => simpa using findS_pure p () (k + 1) r
theorem findS_step {σ α : Type} (p : σ → α → Bool × σ) (s : σ) (l : List α) (k : Nat) (x : α) (h : l[k]? = some x) : findS p k s (l.drop k) = if (p s x).1 then (some k, (p s x).2) else findS p (k + 1) (p s x).2 (l.drop (k + 1)) := by
  have hk : k < l.length := (List.getElem?_eq_some_iff.1 h).1
  rw [List.drop_eq_getElem_cons hk]
  have : l[k] = x := (List.getElem?_eq_some_iff.1 h).2
  rw [this, findS]
theorem findS_end {σ α : Type} (p : σ → α → Bool × σ) (s : σ) (l : List α) (k : Nat) (h : l.length ≤ k) : findS p k s (l.drop k) = (none, s) := by
  rw [List.drop_eq_nil_of_le h]
  rfl
theorem wrap_small {i : Int} (h0 : -9223372036854775808 ≤ i) (h1 : i ≤ 9223372036854775807) : IntKind.i64.wrap i = i := by
  exact IntWalk.i64_in _ ⟨h0, h1⟩
theorem wrap_succ {k n : Nat} (h : k < n) (hn : n ≤ 9223372036854775807) : IntKind.i64.wrap ((k : Int) + 1) = ((k + 1 : Nat) : Int) := by
  rw [wrap_small (by omega) (by omega)]
  omega
end Go.Proofs.YtndophlnapjkhaaDoor.Vc
