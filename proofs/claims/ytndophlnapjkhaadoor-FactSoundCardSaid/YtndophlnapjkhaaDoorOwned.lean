/- A row of one's own, read as a slice. Conditions: none. -/
import Derived.Test.YtndophlnapjkhaaDoorGraphRep
namespace Go.Proofs.YtndophlnapjkhaaDoor.Vc
open Go Go.RowKit
theorem flat_get {sz : Nat} : ∀ {css : List (List Value)} (_ : ∀ cs ∈ css, cs.length = sz) (i j : Nat) (cs : List Value), css[i]? = some cs → j < sz → css.flatten[i * sz + j]? = cs[j]?
  | [], _, i, j, cs, hi, _ => by simp at hi
  | c :: r, h, 0, j, cs, hi, hj => by
    have : c = cs := by simpa using hi
    subst this
    have hl := h c List.mem_cons_self
    rw [List.flatten_cons, Nat.zero_mul, Nat.zero_add, List.getElem?_append_left (by omega)]
  | c :: r, h, i + 1, j, cs, hi, hj => by
    have hl := h c List.mem_cons_self
    rw [List.flatten_cons, List.getElem?_append_right (by rw [hl, Nat.add_mul]; omega), hl]
    rw [show (i + 1) * sz + j - sz = i * sz + j by rw [Nat.add_mul]; omega]
    exact flat_get (fun cs hcs => h cs (List.mem_cons_of_mem _ hcs)) i j cs (by simpa using hi) hj
/-- What the elements of a row are. -/
structure Els {α : Type} (w : World) (sz : Nat) (R : World → α → List Value → Prop) (l : List α) (css : List (List Value)) : Prop where
  many : css.length = l.length
  each : ∀ (i : Nat) x cs, l[i]? = some x → css[i]? = some cs → cs.length = sz ∧ R w x cs
theorem Els.nil {α : Type} (w : World) (sz : Nat) (R : World → α → List Value → Prop) : Els w sz R ([] : List α) [] := ⟨rfl, fun i x cs h => by simp at h⟩
theorem Els.all {α : Type} {w : World} {sz : Nat} {R : World → α → List Value → Prop} {l : List α} {css : List (List Value)} (h : Els w sz R l css) : ∀ cs ∈ css, cs.length = sz := by
  intro cs hcs
  obtain ⟨i, hi⟩ := List.mem_iff_getElem?.1 hcs
  have hl : i < l.length := by rw [← h.many]; exact (List.getElem?_eq_some_iff.1 hi).1
  exact (h.each i _ cs (List.getElem?_eq_getElem hl) hi).1
theorem Els.keep {α : Type} {w W : World} {sz : Nat} {R : World → α → List Value → Prop} {l : List α} {css : List (List Value)} (hR : Kept R) (h : Els w sz R l css) (hc : Cells w W) : Els W sz R l css := ⟨h.many, fun i x cs h1 h2 => let ⟨h3, h4⟩ := h.each i x cs h1 h2; ⟨h3, hR _ _ _ _ hc h4⟩⟩
theorem Els.snoc {α : Type} {w : World} {sz : Nat} {R : World → α → List Value → Prop} {l : List α} {css : List (List Value)} (h : Els w sz R l css) {x : α} {cs : List Value} (hl : cs.length = sz) (hx : R w x cs) : Els w sz R (l ++ [x]) (css ++ [cs]) := by
  refine ⟨by simp [h.many], fun i y ds h1 h2 => ?_⟩
  have hm := h.many
  rcases Nat.lt_or_ge i l.length with hi | hi
  · rw [List.getElem?_append_left hi] at h1
    rw [List.getElem?_append_left (by omega)] at h2
    exact h.each i y ds h1 h2
  · rw [List.getElem?_append_right hi] at h1
    rw [List.getElem?_append_right (by omega), hm] at h2
    match hk : i - l.length, h1, h2 with
    | 0, h1, h2 =>
      cases h1; cases h2
      exact ⟨hl, hx⟩
    | k + 1, h1, h2 => simp at h1
theorem Els.ints (w : World) (l : List Int) : Els w 1 RInt l (l.map fun x => [Value.int .i64 x]) := by
  refine ⟨by simp, fun i x cs h1 h2 => ?_⟩
  rw [List.getElem?_map, h1] at h2
  cases h2
  exact ⟨rfl, rfl⟩
theorem Els.strs (w : World) (l : List ByteArray) : Els w 1 RStr l (l.map fun x => [Value.string x]) := by
  refine ⟨by simp, fun i x cs h1 h2 => ?_⟩
  rw [List.getElem?_map, h1] at h2
  cases h2
  exact ⟨rfl, rfl⟩
theorem flat_ints (l : List Int) : (l.map fun x => [Value.int .i64 x]).flatten = l.map (Value.int .i64) := by
  induction l with
  | nil => rfl
  | cons x r ih => simp [ih]
/-- A row of one's own is a slice. -/
theorem Sl.ofRow {α : Type} {w : World} {base e sz n : Nat} {v : Value} {R : World → α → List Value → Prop} {l : List α} {css : List (List Value)} (h : w.ownsRow base e sz v n css.flatten) (hE : Els w sz R l css) (hn : l.length = n) :
    ∃ A c, v = .slice A n c ∧ Sl w sz R A n c l ∧ ∀ a, A = some a → base ≤ a.block := by
  rcases h.2 with ⟨rfl, rfl⟩ | ⟨g, cap, cur, rfl, hg, hh, hcap, hmax, hsz, htake⟩
  · have : l = [] := List.eq_nil_of_length_eq_zero hn
    subst this
    exact ⟨none, 0, rfl, Sl.nil w sz R none 0, fun a h => by cases h⟩
  · refine ⟨_, cap, rfl, ⟨hn, hcap, by simp only [maxLen] at hmax; omega, fun _ => rfl, fun i x hi => ?_⟩, fun a h => by cases h; exact hg⟩
    have hil : i < css.length := by rw [hE.many]; exact (List.getElem?_eq_some_iff.1 hi).1
    obtain ⟨h1, h2⟩ := hE.each i x _ hi (List.getElem?_eq_getElem hil)
    refine ⟨_, h1, h2, fun j u hj => ?_⟩
    have hjl : j < sz := by rw [← h1]; exact (List.getElem?_eq_some_iff.1 hj).1
    have hf := flat_get hE.all i j _ (List.getElem?_eq_getElem hil) hjl
    rw [hj, ← htake, List.getElem?_take] at hf
    split at hf
    · rw [show (adr (some (⟨g, 0, none⟩ : Addr))) = ⟨g, 0, none⟩ from rfl, blk_add, blk_cell hh, Nat.zero_add]
      simpa using hf
    · cases hf
theorem Sl.ofInts {w : World} {base e n : Nat} {v : Value} {l : List Int} (h : w.ownsRow base e 1 v n (l.map (Value.int .i64))) : ∃ A c, v = .slice A n c ∧ Sl w 1 RInt A n c l ∧ ∀ a, A = some a → base ≤ a.block := by
  have hn : l.length = n := by have := h.1; simpa using this
  rw [← flat_ints] at h
  exact Sl.ofRow h (Els.ints w l) hn
end Go.Proofs.YtndophlnapjkhaaDoor.Vc
