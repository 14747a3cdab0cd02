/- A queue of whole numbers: a slice of one's own block, from some place on; a number put behind it. Conditions: those of each statement. -/
import Derived.Test.YtndophlnapjkhaaDoorMore
import Derived.ArgAppend
namespace Go.Proofs.YtndophlnapjkhaaDoor.Vc
open Go Go.RowKit
set_option linter.unusedVariables false
theorem fill_int1 (x : Int) : Instr.fill (fun i => some (i * 1, 1)) ((List.range (1 * 1)).map ((Value.int .i64 0).cells[· % (Value.int .i64 0).cells.size]!)).toArray [(0, .int .i64 x)] = some #[.int .i64 x] := by rfl
/-- From off on a block holds these numbers; cap cells are the slice's. -/
structure QAt (cur : Array Value) (off cap : Nat) (l : List Int) : Prop where
  fit : off + cap ≤ cur.size
  le : l.length ≤ cap
  at_ : ∀ (i : Nat) x, l[i]? = some x → cur[off + i]? = some (.int .i64 x)
theorem QAt.sl {w : World} {b : Nat} {cur : Array Value} {t : TypeId} {off cap : Nat} {l : List Int} (h : QAt cur off cap l) (hb : w.heap[b]? = some (.cells cur t (0, 0))) (hm : l.length ≤ 9223372036854775807) : Ints w (some ⟨b, off, none⟩) cap l :=
  ⟨rfl, h.le, hm, fun _ => rfl, fun i x hi => ⟨[.int .i64 x], rfl, rfl, fun j v hj => by
    cases j with
    | zero =>
      cases hj
      rw [show (adr (some (⟨b, off, none⟩ : Addr))) = ⟨b, off, none⟩ from rfl, blk_add, blk_cell hb]
      simpa using h.at_ i x hi
    | succ j => simp at hj⟩⟩
theorem QAt.tail {cur : Array Value} {off cap : Nat} {x : Int} {l : List Int} (h : QAt cur off cap (x :: l)) : QAt cur (off + 1) (cap - 1) l := by
  have h1 := h.le
  have h2 := h.fit
  simp only [List.length_cons] at h1
  refine ⟨by omega, by omega, fun i y hi => ?_⟩
  have := h.at_ (i + 1) y (by simpa using hi)
  rwa [show off + 1 + i = off + (i + 1) by omega]
section
variable {P : Program} {w w0 : World} {ρ : Operand → Value} {o : Oper} {S : Nat → Prop} {L : List Res}
theorem n_push {x y : Operand} {t el : TypeId} {b off cap d c : Nat} {cur : Array Value} {l : List Int} {v : Int} (i : Nat) (h : o.op = .call { callee := .builtin .append, args := #[x, y], argTypes := #[t, t] })
    (hu : P.underlying t = some (.slice el)) (hinfo : (P.info? el).map (fun i => (i.zero, i.size, i.bytes)) = some (some (.int .i64 0), 1, 8)) (hx : ρ x = .slice (some ⟨b, off, none⟩) l.length cap) (hy : ρ y = .slice (some ⟨d, 0, none⟩) 1 c)
    (hL : Has w L) (hE : Ext S w0 w) (hi : L[i]? = some (.blk b (.cells cur el (0, 0)))) (hq : QAt cur off cap l) (hd : w.cell? ⟨d, 0, none⟩ = some (.int .i64 v)) (hS : b < w0.heap.size → S b) (hbig : l.length ≤ 1000000000000) :
    ∃ v' w', (execOp ρ o).run P w = .ok (.value v') w' ∧ ∃ b' off' cap' cur', v' = .slice (some ⟨b', off', none⟩) (l.length + 1) cap' ∧ QAt cur' off' cap' (l ++ [v]) ∧ Has w' (L.set i (.blk b' (.cells cur' el (0, 0)))) ∧ Ext S w0 w' ∧ (b' < w0.heap.size → S b') := by
  obtain ⟨i0, hinf, hzz⟩ := Option.map_eq_some_iff.1 hinfo
  simp only [Prod.mk.injEq] at hzz
  obtain ⟨hz0, hz1, hz2⟩ := hzz
  have hb := hL.get i hi
  have hlt : b < w.heap.size := (Array.getElem?_eq_some_iff.1 hb).1
  have hnews : ∀ j u, ([.int .i64 v] : List Value)[j]? = some u → w.cell? ((⟨d, 0, none⟩ : Addr).add j) = some u := fun j u hj => by
    cases j with
    | zero => cases hj; rw [blk_add]; exact hd
    | succ j => simp at hj
  have hfit := hq.fit
  by_cases hr : l.length + 1 ≤ cap
  · have hat : off + l.length < cur.size := by omega
    have hfz : w.frozen? ⟨b, off + l.length * 1, none⟩ = false := by
      simp [World.frozen?, hb]
    have hrun := run_append_room_cells (P := P) w t o.type el i0 hu hinf b off l.length cap ⟨d, 0, none⟩ 1 c [.int .i64 v] (by rw [hz1]; rfl) hnews (by intro u hu; rw [List.mem_singleton] at hu; rw [hu]; rfl) hr
      (fun j hj => by
        have : j = 0 := by simpa using hj
        subst this
        rw [hz1, Nat.mul_one, Nat.add_zero, blk_cell hb]
        simp [hat])
      (fun j hj => by
        have : j = 0 := by simpa using hj
        subst this
        rw [hz1]
        exact hfz)
    have hset : (w.setCells b (off + l.length * i0.size) [.int .i64 v]) = w.setCell ⟨b, off + l.length, none⟩ (.int .i64 v) := by
      rw [hz1, Nat.mul_one]
      rfl
    rw [hset] at hrun
    have hb' : (w.setCell ⟨b, off + l.length, none⟩ (.int .i64 v)).heap[b]? = some (.cells (cur.setIfInBounds (off + l.length) (.int .i64 v)) el (0, 0)) := by simp [World.setCell, Array.getElem?_modify, hb]
    have hk : ∀ k, k ≠ b → (w.setCell ⟨b, off + l.length, none⟩ (.int .i64 v)).heap[k]? = w.heap[k]? := fun k hk => Below.heap_setCell _ _ _ _ hk
    refine ⟨_, _, by simp [execOp, h, resolve, invoke, builtin, hx, hy, hrun], b, off, cap, cur.setIfInBounds (off + l.length) (.int .i64 v), rfl, ⟨by simpa using hfit, by simpa using hr, fun j u hj => ?_⟩, hL.setAt (r' := .blk b _) i hi hb' (fun c hc => .inl hc) (fun k _ hne => hk k (fun e => hne (by rw [e]; rfl))), hE.set b _ _ hS, hS⟩
    rcases Nat.lt_or_ge j l.length with hj1 | hj1
    · rw [List.getElem?_append_left hj1] at hj
      rw [Array.getElem?_setIfInBounds_ne (by omega)]
      exact hq.at_ j u hj
    · rw [List.getElem?_append_right hj1] at hj
      have h0 : j = l.length := by
        have := (List.getElem?_eq_some_iff.1 hj).1
        simp at this
        omega
      subst h0
      simp at hj
      subst hj
      simp [hat]
  · obtain ⟨v', w', hrun, hown, hg⟩ := run_append_arg_grows (P := P) w t o.type el i0 (.int .i64 0) 1 8 hu hinf hz0 hz1 hz2 rfl (by decide) ⟨b, off, none⟩ l.length cap (l.map (Value.int .i64)) (by simp) (fun j u hj => by
      rw [List.getElem?_map, Option.map_eq_some_iff] at hj
      obtain ⟨x, hx1, rfl⟩ := hj
      rw [blk_add, blk_cell hb]
      exact hq.at_ j x hx1) ⟨d, 0, none⟩ 1 c [.int .i64 v] rfl hnews (by omega) (by unfold maxLen; omega) (by omega)
    have he := ext0_grown hg
    rcases hown.2 with ⟨rfl, h0⟩ | ⟨g, cap', cur', rfl, hgb, hh, hn, hm, hsz, htake⟩
    · omega
    · refine ⟨_, w', by simp [execOp, h, resolve, invoke, builtin, hx, hy, hrun], g, 0, cap', cur', rfl, ⟨by omega, by simpa using hn, fun j u hj => ?_⟩, hL.setAt (r' := .blk g _) i hi hh (fun c hc => .inr (by simp [Res.foot] at hc; omega)) (fun k hk _ => he.block k hk (fun hf => hf)), hE.step0 he, fun hlt => absurd hlt (by have := hE.size; omega)⟩
      have hjl : j < l.length + 1 := by have := (List.getElem?_eq_some_iff.1 hj).1; simpa using this
      have h1 : (l.map (Value.int .i64) ++ [.int .i64 v])[j]? = some (.int .i64 u) := by
        have : l.map (Value.int .i64) ++ [.int .i64 v] = (l ++ [v]).map (Value.int .i64) := by simp
        rw [this, List.getElem?_map, hj]
        rfl
      rw [← htake, List.getElem?_take] at h1
      split at h1
      · rw [Nat.zero_add]
        simpa using h1
      · cases h1
end
section
variable {P : Program} {w : World} {ρ : Operand → Value} {o : Oper}
/-- 'q[1:]' -/
theorem n_pop {x i : Operand} {t el : TypeId} {b off cap : Nat} {cur : Array Value} {h0 : Int} {q : List Int} {k : IntKind} (h : o.op = .slice t x (some i) none none) (hu : P.underlying t = some (.slice el)) (hs : Sized P el 1) (hx : ρ x = .slice (some ⟨b, off, none⟩) (h0 :: q).length cap) (hi : ρ i = .int k 1) (hq : QAt cur off cap (h0 :: q)) :
    ∃ v w1, (execOp ρ o).run P w = .ok (.value v) w1 ∧ ∃ off', v = .slice (some ⟨b, off', none⟩) q.length (cap - 1) ∧ QAt cur off' (cap - 1) q ∧ w1 = w := by
  have hle := hq.le
  simp only [List.length_cons] at hle
  have hr := r_slice_from (P := P) (w := w) (ρ := ρ) (o := o) h hu hs hx hi (by decide) (by simp only [List.length_cons]; omega)
  refine ⟨_, _, hr, ?_⟩
  by_cases hc : cap = (1 : Int).toNat
  · rw [if_pos hc]
    have h1 : q.length = 0 := by simp at hc; omega
    have h2 : q = [] := List.eq_nil_of_length_eq_zero h1
    subst h2
    have hf := hq.fit
    exact ⟨off, rfl, ⟨by omega, by simp, fun i x hi => by simp at hi⟩, rfl⟩
  · rw [if_neg hc]
    exact ⟨off + 1, rfl, hq.tail, rfl⟩
end
section
variable {κ ν : Type} [DecidableEq κ] {P : Program} {w : World} {ρ : Operand → Value} {o : Oper} {kt et t : TypeId} {enc : κ → Value} {venc : ν → Value} {m : List (κ × ν)} {b : Nat}
/-- An entry of a map that is written out. -/
theorem r_mapInsert {x y z : Operand} {k : κ} {v : ν} {S : Nat → Prop} {w0 : World} {L : List Res} (i : Nat) (h : o.op = .insert t x y z) (hu : P.underlying t = some (.map kt et)) (K : KeyLaw P kt enc) (hx : ρ x = .map (some b)) (hy : ρ y = enc k) (hz : ρ z = venc v)
    (hL : Has w L) (hE : Ext S w0 w) (hi : L[i]? = some (.blk b (mapObj enc venc m))) (hS : b < w0.heap.size → S b) :
    ∃ w', (execOp ρ o).run P w = .ok .skip w' ∧ Has w' (L.set i (.blk b (mapObj enc venc (setM m k v)))) ∧ Ext S w0 w' ∧ w'.heap.size = w.heap.size ∧ (∀ k, k ≠ b → w'.heap[k]? = w.heap[k]?) := by
  have h2 := r_mapUpdate (o := { o with op := .mapUpdate t x y z }) (P := P) (w := w) (ρ := ρ) (x := x) (y := y) (z := z) (k := k) (v := v) i rfl hu K hx hy hz hL hE hi hS
  have h3 : execOp ρ o = execOp ρ { o with op := .mapUpdate t x y z } := by simp [execOp, h]
  rw [h3]
  exact h2
end
end Go.Proofs.YtndophlnapjkhaaDoor.Vc
