/- A callee has turned part of what is held: the rest is held as it was. Conditions: none. -/
import Derived.Test.YtndophlnapjkhaaDoorOwned
import Derived.Test.YtndophlnapjkhaaDoorFun
namespace Go.Proofs.YtndophlnapjkhaaDoor.Vc
open Go Go.RowKit
theorem Has.frame {S : Nat → Prop} {w w' : World} : ∀ {L1 L2 L2' : List Res}, Has w (L1 ++ L2) → Ext S w w' → Has w' L2' → (∀ k, S k → ∃ r ∈ L2, r.foot = some k) → (∀ r ∈ L2', ∀ b, r.foot = some b → (∃ q ∈ L2, q.foot = some b) ∨ w.heap.size ≤ b) → Has w' (L1 ++ L2')
  | [], _, _, _, _, h2, _, _ => h2
  | r :: L1, L2, L2', h, hE, h2, hS, hf => by
    refine ⟨Res.keep h.1 fun b hb => hE.block b (Res.lt h.1 hb) fun hs => ?_, fun q hq b hb hqb => ?_, Has.frame h.2.2 hE h2 hS hf⟩
    · obtain ⟨q, hq, hqb⟩ := hS b hs
      exact h.2.1 q (List.mem_append_right _ hq) b hb hqb
    · rcases List.mem_append.1 hq with hq | hq
      · exact h.2.1 q (List.mem_append_left _ hq) b hb hqb
      · rcases hf q hq b hqb with ⟨p, hp, hpb⟩ | hlt
        · exact h.2.1 p (List.mem_append_right _ hp) b hb hpb
        · have := Res.lt h.1 hb
          omega
/-- A row that a callee has made. -/
theorem Has.addRow {w w1 : World} {L : List Res} {e sz n : Nat} {v : Value} {xs : List Value} (h : Has w L) (he : Ext0 w w1) (hr : w1.ownsRow w.heap.size e sz v n xs) : Has w1 (.row w.heap.size e sz v n xs :: L) :=
  h.cons he (r := .row w.heap.size e sz v n xs) hr (fun b hb => (ownsRow_lt hr hb).2)
theorem Sl.ints_at {w : World} {base e n n' c : Nat} {A : Option Addr} {l : List Int} (h : w.ownsRow base e 1 (.slice A n' c) n (l.map (Value.int .i64))) : Sl w 1 RInt A n' c l := by
  obtain ⟨A', c', hv, hs, _⟩ := Sl.ofInts h
  injection hv with h1 h2 h3
  subst h1; subst h2; subst h3
  exact hs
theorem Has.right {w : World} : ∀ {L1 L2 : List Res}, Has w (L1 ++ L2) → Has w L2
  | [], _, h => h
  | _ :: _, _, h => Has.right h.2.2
theorem noCells_map {κ ν : Type} [DecidableEq κ] {enc : κ → Value} {venc : ν → Value} {m : List (κ × ν)} {w : World} {b : Nat} (h : w.heap[b]? = some (mapObj enc venc m)) : NoCells (fun k => k = b) w := fun k hk c t f hc => by
  subst hk
  rw [h] at hc
  cases hc
theorem findS_lt {σ α : Type} (p : σ → α → Bool × σ) : ∀ (k : Nat) (s : σ) (l : List α) (i : Nat), (findS p k s l).1 = some i → k ≤ i ∧ i < k + l.length
  | _, _, [], _, h => by simp [findS] at h
  | k, s, x :: r, i, h => by
    rw [findS] at h
    split at h
    · cases h
      simp
    · have := findS_lt p (k + 1) _ r i h
      simp only [List.length_cons]
      omega
theorem idxV_lt {o : Option Nat} {n : Nat} (h : ∀ i, o = some i → i < n) : idxV o < n := by
  cases o with
  | none => simp [idxV]; omega
  | some i => have := h i rfl; simp [idxV]; omega
theorem r_build {P : Program} {w : World} {ρ : Operand → Value} {o : Oper} {t : TypeId} {ps : Array (Nat × Operand)} {vs : List (Nat × Value)} {cells : Array Value} (h : o.op = .build t ps) (hv : ps.toList.map (fun x => (x.1, ρ x.2)) = vs) (hb : P.built t vs = some cells) : (execOp ρ o).run P w = .ok (.value (.agg cells)) w := by
  have h1 : (ps.map fun x => (x.1, ρ x.2)).toList = vs := by rw [← hv]; simp
  have := run_build w t (ps.map fun x => (x.1, ρ x.2)) cells (by rw [h1]; exact hb)
  simp [execOp, h, this]
end Go.Proofs.YtndophlnapjkhaaDoor.Vc
