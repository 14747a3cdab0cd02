/- Data as Go's memory holds it: slices of numbers, texts, structs, read cell by cell; that stays while those cells stay. Conditions: none. -/
import Derived.Test.YtndophlnapjkhaaDoorNew
namespace Go.Proofs.YtndophlnapjkhaaDoor.Vc
open Go Go.RowKit
set_option linter.unusedSimpArgs false
set_option linter.unusedSectionVars false
/-- What is read there is read so in the other world. -/
def Cells (w W : World) : Prop := ∀ a v, w.cell? a = some v → W.cell? a = some v
theorem Cells.refl (w : World) : Cells w w := fun _ _ h => h
theorem Cells.trans {w w1 w2 : World} (h : Cells w w1) (k : Cells w1 w2) : Cells w w2 := fun a v hc => k a v (h a v hc)
theorem Ext0.cells {w W : World} (h : Ext0 w W) : Cells w W := fun _ _ hc => h.cell hc (fun hf => hf)
/-- Of S none is a block of cells. -/
def NoCells (S : Nat → Prop) (w : World) : Prop := ∀ k, S k → ∀ c t f, w.heap[k]? ≠ some (.cells c t f)
theorem Ext.cells {S : Nat → Prop} {w W : World} (h : Ext S w W) (hs : NoCells S w) : Cells w W := fun _ _ hc => h.cell_map hs hc
def adr (A : Option Addr) : Addr := A.getD ⟨0, 0, none⟩
theorem adr_add (a : Addr) (m j : Nat) : (a.add m).add j = a.add (m + j) := by
  unfold Addr.add
  by_cases h1 : m = 0 <;> by_cases h2 : j = 0 <;> simp [h1, h2, Nat.add_assoc]
/-- A slice of elements, each of sz cells. -/
structure Sl {α : Type} (w : World) (sz : Nat) (R : World → α → List Value → Prop) (A : Option Addr) (n c : Nat) (xs : List α) : Prop where
  len : xs.length = n
  cap : n ≤ c
  max : n ≤ 9223372036854775807
  is : 0 < n → A.isSome = true
  at_ : ∀ i x, xs[i]? = Option.some x → ∃ cs, cs.length = sz ∧ R w x cs ∧ ∀ j v, cs[j]? = Option.some v → w.cell? ((adr A).add (i * sz + j)) = Option.some v
def Kept {α : Type} (R : World → α → List Value → Prop) : Prop := ∀ w W x cs, Cells w W → R w x cs → R W x cs
section
variable {α : Type} {w W : World} {sz n c : Nat} {R : World → α → List Value → Prop} {A : Option Addr} {xs : List α}
theorem Sl.keep (hR : Kept R) (h : Sl w sz R A n c xs) (hc : Cells w W) : Sl W sz R A n c xs :=
  ⟨h.len, h.cap, h.max, h.is, fun i x hi => let ⟨cs, h1, h2, h3⟩ := h.at_ i x hi; ⟨cs, h1, hR _ _ _ _ hc h2, fun j v hj => hc _ _ (h3 j v hj)⟩⟩
theorem Sl.nil (w : World) (sz : Nat) (R : World → α → List Value → Prop) (A : Option Addr) (c : Nat) : Sl w sz R A 0 c ([] : List α) := ⟨rfl, Nat.zero_le _, by omega, fun h => absurd h (by omega), fun i x h => by simp at h⟩
theorem Sl.get (h : Sl w sz R A n c xs) (d : α) (i : Int) (h0 : 0 ≤ i) (h1 : i < n) : ∃ cs, cs.length = sz ∧ R w (xs.getD i.toNat d) cs ∧ ∀ j v, cs[j]? = Option.some v → w.cell? (((adr A).add (i.toNat * sz)).add j) = Option.some v := by
  have hl : i.toNat < xs.length := by have := h.len; omega
  obtain ⟨cs, h1, h2, h3⟩ := h.at_ i.toNat _ (List.getElem?_eq_getElem hl)
  refine ⟨cs, h1, ?_, fun j v hj => by rw [adr_add]; exact h3 j v hj⟩
  rw [List.getD_eq_getElem?_getD, List.getElem?_eq_getElem hl]
  exact h2
end
def RInt (_ : World) (x : Int) (cs : List Value) : Prop := cs = [.int .i64 x]
def RStr (_ : World) (x : ByteArray) (cs : List Value) : Prop := cs = [.string x]
theorem RInt.kept : Kept RInt := fun _ _ _ _ _ h => h
theorem RStr.kept : Kept RStr := fun _ _ _ _ _ h => h
section
variable {w : World} {n c : Nat} {A : Option Addr}
theorem Sl.int {xs : List Int} (h : Sl w 1 RInt A n c xs) (i : Int) (h0 : 0 ≤ i) (h1 : i < n) : w.cell? ((adr A).add (i.toNat * 1)) = some (.int .i64 (xs.getD i.toNat 0)) := by
  obtain ⟨cs, _, h2, h3⟩ := h.get 0 i h0 h1
  rw [h2] at h3
  have := h3 0 _ rfl
  rw [adr_add, Nat.add_zero] at this
  exact this
theorem Sl.str {xs : List ByteArray} (h : Sl w 1 RStr A n c xs) (i : Int) (h0 : 0 ≤ i) (h1 : i < n) : w.cell? ((adr A).add (i.toNat * 1)) = some (.string (xs.getD i.toNat ByteArray.empty)) := by
  obtain ⟨cs, _, h2, h3⟩ := h.get ByteArray.empty i h0 h1
  rw [h2] at h3
  have := h3 0 _ rfl
  rw [adr_add, Nat.add_zero] at this
  exact this
end
/-- A block of one's own, read as a slice. -/
theorem Sl.ofBlk1 {α : Type} {R : World → α → List Value → Prop} {w : World} {b : Nat} {cs : Array Value} {t : TypeId} {fr : Nat × Nat} {xs : List α} {n c : Nat} (hb : w.heap[b]? = some (.cells cs t fr)) (hn : xs.length = n) (hc : n ≤ c) (hm : n ≤ 9223372036854775807) (h : ∀ (i : Nat) (x : α), xs[i]? = some x → ∃ v, cs[i]? = some v ∧ R w x [v]) : Sl w 1 R (some ⟨b, 0, none⟩) n c xs :=
  ⟨hn, hc, hm, fun _ => rfl, fun i x hi => by
    obtain ⟨v, hv, hR⟩ := h i x hi
    refine ⟨[v], rfl, hR, fun j u hj => ?_⟩
    cases j with
    | zero =>
      have : v = u := by simpa using hj
      subst this
      rw [show (adr (some (⟨b, 0, none⟩ : Addr))) = ⟨b, 0, none⟩ from rfl, blk_add, blk_cell hb]
      simpa using hv
    | succ j => simp at hj⟩
section
variable {P : Program} {w : World} {ρ : Operand → Value} {o : Oper}
theorem r_indexAddr_sl {t el : TypeId} {x ix : Operand} {k : IntKind} {i : Int} {A : Option Addr} {len cap n : Nat} (h : o.op = .indexAddr t x ix) (hu : P.underlying t = some (.slice el)) (hs : Sized P el n) (hx : ρ x = .slice A len cap) (hA : 0 < len → A.isSome = true) (hi : ρ ix = .int k i) (h0 : 0 ≤ i) (h1 : i < len) :
    (execOp ρ o).run P w = .ok (.value (.pointer (some ((adr A).add (i.toNat * n))))) w := by
  cases A with
  | none => have := hA (by omega); cases this
  | some a => exact r_indexAddr h hu hs hx hi h0 h1
end
end Go.Proofs.YtndophlnapjkhaaDoor.Vc
