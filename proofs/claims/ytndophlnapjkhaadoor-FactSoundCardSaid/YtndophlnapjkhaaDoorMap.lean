/- Maps that hold what a list of pairs says, in the order in which the keys came: made, asked, written, gone through. For any program and key types with an equality that runs. -/
import Derived.Test.YtndophlnapjkhaaDoorMem
namespace Go.Proofs.YtndophlnapjkhaaDoor.Vc
open Go Go.RowKit
set_option linter.unusedSimpArgs false
set_option linter.unusedSectionVars false
section
variable {κ ν : Type} [DecidableEq κ]
def getM : List (κ × ν) → κ → Option ν
  | [], _ => none
  | p :: r, x => if p.1 = x then some p.2 else getM r x
def setM : List (κ × ν) → κ → ν → List (κ × ν)
  | [], x, v => [(x, v)]
  | p :: r, x, v => if p.1 = x then (x, v) :: r else p :: setM r x v
def idxM : List (κ × ν) → κ → Option Nat
  | [], _ => none
  | p :: r, x => if p.1 = x then some 0 else (idxM r x).map (· + 1)
def entsM (enc : κ → Value) (venc : ν → Value) : Nat → List (κ × ν) → List MapEntry
  | _, [] => []
  | i, p :: r => ⟨enc p.1, venc p.2, i⟩ :: entsM enc venc (i + 1) r
/-- A map's block. -/
def mapObj (enc : κ → Value) (venc : ν → Value) (m : List (κ × ν)) : Obj := .map (entsM enc venc 0 m).toArray m.length
theorem length_entsM (enc : κ → Value) (venc : ν → Value) : ∀ (i : Nat) (m : List (κ × ν)), (entsM enc venc i m).length = m.length
  | _, [] => rfl
  | i, p :: r => by simp [entsM, length_entsM enc venc (i + 1) r]
theorem mapObj_nil (enc : κ → Value) (venc : ν → Value) : mapObj enc venc ([] : List (κ × ν)) = .map #[] 0 := rfl
theorem getElem?_entsM (enc : κ → Value) (venc : ν → Value) : ∀ (i : Nat) (m : List (κ × ν)) (j : Nat), (entsM enc venc i m)[j]? = (m[j]?).map fun p => ⟨enc p.1, venc p.2, i + j⟩
  | _, [], j => by simp [entsM]
  | i, p :: r, 0 => by simp [entsM]
  | i, p :: r, j + 1 => by
    simp only [entsM, List.getElem?_cons_succ, getElem?_entsM enc venc (i + 1) r j]
    rw [show i + 1 + j = i + (j + 1) from by omega]

/-- A key type whose values are compared at once. -/
structure KeyLaw (P : Program) (kt : TypeId) (enc : κ → Value) : Prop where
  check : ∀ b x w, (Instr.checkKey b 10000 kt (enc x)).run P w = .ok () w
  bits : ∀ x, Instr.sameBits 10000 (enc x) (enc x) = true
  find : ∀ (x : κ) (ks : List κ) (es : List MapEntry), es.map (·.key) = ks.map enc → ∀ w, (Instr.findKey kt (enc x) es).run P w = .ok ((ks.findIdx? (· = x)).bind fun i => (es[i]?).map fun e => (i, e.val)) w

variable {P : Program} {w : World} {ρ : Operand → Value} {o : Oper} {kt et t : TypeId} {enc : κ → Value} {venc : ν → Value} {m : List (κ × ν)} {b : Nat}

theorem keys_entsM (enc : κ → Value) (venc : ν → Value) : ∀ (i : Nat) (m : List (κ × ν)), (entsM enc venc i m).map (·.key) = (m.map (·.1)).map enc
  | _, [] => rfl
  | i, p :: r => by simp [entsM, keys_entsM enc venc (i + 1) r]
theorem findIdx_getM (venc : ν → Value) : ∀ (i : Nat) (m : List (κ × ν)) (x : κ), (((m.map (·.1)).findIdx? (· = x)).bind fun j => ((entsM enc venc i m)[j]?).map fun e => (j, e.val)) = (idxM m x).bind fun j => (getM m x).map fun v => (j, venc v)
  | _, [], _ => rfl
  | i, p :: r, x => by
    by_cases hp : p.1 = x
    · simp [List.findIdx?_cons, hp, idxM, getM, entsM]
    · have ih := findIdx_getM venc (i + 1) r x
      simp only [List.map_cons, List.findIdx?_cons, hp, decide_false, Bool.false_eq_true, if_false, idxM, getM, entsM, cond_false]
      cases h1 : (r.map (·.1)).findIdx? (· = x) with
      | none =>
        cases h2 : idxM r x with
        | none => simp
        | some j =>
          rw [h1, h2] at ih
          cases h3 : getM r x with
          | none => simp
          | some v => rw [h3] at ih; simp at ih
      | some j =>
        rw [h1] at ih
        simp only [Option.bind_some] at ih
        cases h2 : idxM r x with
        | none =>
          rw [h2] at ih
          simp at ih
          simp
          exact ih
        | some j' =>
          rw [h2] at ih
          simp only [Option.bind_some] at ih
          cases h3 : getM r x with
          | none =>
            rw [h3] at ih
            simp at ih
            simp
            exact ih
          | some v =>
            rw [h3] at ih
            cases h4 : (entsM enc venc (i + 1) r)[j]? with
            | none => rw [h4] at ih; simp at ih
            | some e =>
              rw [h4] at ih
              simp at ih
              obtain ⟨rfl, hv⟩ := ih
              simp
              exact ⟨e, h4, hv⟩
theorem run_findKey (K : KeyLaw P kt enc) (x : κ) (w : World) : (Instr.findKey kt (enc x) (entsM enc venc 0 m)).run P w = .ok ((idxM m x).bind fun j => (getM m x).map fun v => (j, venc v)) w := by
  rw [K.find x (m.map (·.1)) _ (keys_entsM enc venc 0 m) w, findIdx_getM]
theorem idxM_none : ∀ {m : List (κ × ν)} {x : κ}, idxM m x = none ↔ getM m x = none
  | [], _ => by simp [idxM, getM]
  | p :: r, x => by
    by_cases hp : p.1 = x
    · simp [idxM, getM, hp]
    · simp [idxM, getM, hp, idxM_none (m := r)]
/-- 'v := m[k]' -/
theorem r_lookup {x y : Operand} {k : κ} {z : Value} (h : o.op = .lookup t x y false) (hu : P.underlying t = some (.map kt et)) (K : KeyLaw P kt enc) (hz : ∀ w, (zeroValue et).run P w = .ok z w) (hx : ρ x = .map (some b)) (hy : ρ y = enc k) (hb : w.heap[b]? = some (mapObj enc venc m)) :
    (execOp ρ o).run P w = .ok (.value ((getM m k).elim z venc)) w := by
  have hg : (getObj b).run P w = .ok (mapObj enc venc m) w := by
    simp [getObj, Sem.run, hb, mapObj]
  simp only [execOp, h, Instr.lookup, Sem.run_bind, run_underlying hu, Result.andThen_ok, hx, hy, hg, mapObj, Sem.run_pure]
  rw [K.check]
  simp only [Result.andThen_ok, run_findKey K]
  cases h1 : getM m k with
  | none =>
    rw [(idxM_none).2 h1]
    simp [hz w]
  | some v =>
    cases h2 : idxM m k with
    | none => rw [idxM_none.1 h2] at h1; cases h1
    | some j => simp
/-- 'v, ok := m[k]' -/
theorem r_lookup_ok {x y : Operand} {k : κ} {z : Value} (h : o.op = .lookup t x y true) (hu : P.underlying t = some (.map kt et)) (K : KeyLaw P kt enc) (hz : ∀ w, (zeroValue et).run P w = .ok z w) (hx : ρ x = .map (some b)) (hy : ρ y = enc k) (hb : w.heap[b]? = some (mapObj enc venc m)) :
    (execOp ρ o).run P w = .ok (.value (.tuple #[(getM m k).elim z venc, .bool (getM m k).isSome])) w := by
  have hg : (getObj b).run P w = .ok (mapObj enc venc m) w := by
    simp [getObj, Sem.run, hb, mapObj]
  simp only [execOp, h, Instr.lookup, Sem.run_bind, run_underlying hu, Result.andThen_ok, hx, hy, hg, mapObj, Sem.run_pure]
  rw [K.check]
  simp only [Result.andThen_ok, run_findKey K]
  cases h1 : getM m k with
  | none =>
    rw [(idxM_none).2 h1]
    simp [hz w]
  | some v =>
    cases h2 : idxM m k with
    | none => rw [idxM_none.1 h2] at h1; cases h1
    | some j => simp
theorem r_lookup_int {x y : Operand} {k : κ} {ik : IntKind} {m : List (κ × Int)} (h : o.op = .lookup t x y false) (hu : P.underlying t = some (.map kt et)) (K : KeyLaw P kt enc) (hz : ∀ w, (zeroValue et).run P w = .ok (.int ik 0) w) (hx : ρ x = .map (some b)) (hy : ρ y = enc k) (hb : w.heap[b]? = some (mapObj enc (Value.int ik) m)) :
    (execOp ρ o).run P w = .ok (.value (.int ik ((getM m k).getD 0))) w := by
  have := r_lookup h hu K hz hx hy hb
  rw [this]
  cases getM m k <;> rfl
theorem r_lookup_ok_none {x y : Operand} {k : κ} {z : Value} (h : o.op = .lookup t x y true) (hu : P.underlying t = some (.map kt et)) (K : KeyLaw P kt enc) (hz : ∀ w, (zeroValue et).run P w = .ok z w) (hx : ρ x = .map (some b)) (hy : ρ y = enc k) (hb : w.heap[b]? = some (mapObj enc venc m)) (hg : getM m k = none) :
    (execOp ρ o).run P w = .ok (.value (.tuple #[z, .bool false])) w := by
  have := r_lookup_ok h hu K hz hx hy hb
  rw [hg] at this
  exact this
theorem r_lookup_ok_some {x y : Operand} {k : κ} {z : Value} {v : ν} (h : o.op = .lookup t x y true) (hu : P.underlying t = some (.map kt et)) (K : KeyLaw P kt enc) (hz : ∀ w, (zeroValue et).run P w = .ok z w) (hx : ρ x = .map (some b)) (hy : ρ y = enc k) (hb : w.heap[b]? = some (mapObj enc venc m)) (hg : getM m k = some v) :
    (execOp ρ o).run P w = .ok (.value (.tuple #[venc v, .bool true])) w := by
  have := r_lookup_ok h hu K hz hx hy hb
  rw [hg] at this
  exact this
theorem r_len_map {x : Operand} {ts : TypeId} (h : o.op = .call { callee := .builtin .len, args := #[x], argTypes := #[ts] }) (hu : P.underlying ts = some (.map kt et)) (hx : ρ x = .map (some b)) (hb : w.heap[b]? = some (mapObj enc venc m)) :
    (execOp ρ o).run P w = .ok (.value (.int .i64 m.length)) w := by
  have hg : (getObj b).run P w = .ok (mapObj enc venc m) w := by
    simp [getObj, Sem.run, hb, mapObj]
  simp [execOp, h, resolve, invoke, builtin, Builtin.len_, run_underlying hu, hx, hg, mapObj, length_entsM, goInt]

theorem getObj_map (hb : w.heap[b]? = some (mapObj enc venc m)) : (getObj b).run P w = .ok (mapObj enc venc m) w := by simp [getObj, Sem.run, hb, mapObj]
theorem setM_idx : ∀ (i : Nat) (m : List (κ × ν)) (x : κ) (v : ν) (j : Nat), idxM m x = some j → (entsM enc venc i m).modify j (fun e => { e with key := enc x, val := venc v }) = entsM enc venc i (setM m x v)
  | _, [], _, _, _, h => by simp [idxM] at h
  | i, p :: r, x, v, j, h => by
    by_cases hp : p.1 = x
    · simp [idxM, hp] at h
      subst h
      simp [setM, hp, entsM, List.modify_cons]
    · simp [idxM, hp] at h
      obtain ⟨j', h', rfl⟩ := h
      simp [setM, hp, entsM, setM_idx (i + 1) r x v j' h']
theorem setM_none : ∀ (i : Nat) (m : List (κ × ν)) (x : κ) (v : ν), idxM m x = none → entsM enc venc i m ++ [⟨enc x, venc v, i + m.length⟩] = entsM enc venc i (setM m x v)
  | i, [], x, v, _ => by simp [entsM, setM]
  | i, p :: r, x, v, h => by
    by_cases hp : p.1 = x
    · simp [idxM, hp] at h
    · simp [idxM, hp] at h
      simp only [setM, hp, if_false, entsM, List.cons_append]
      rw [← setM_none (i + 1) r x v h]
      simp only [List.length_cons]
      rw [show i + 1 + r.length = i + (r.length + 1) from by omega]
theorem length_setM : ∀ (m : List (κ × ν)) (x : κ) (v : ν), (setM m x v).length = if (idxM m x).isSome then m.length else m.length + 1
  | [], _, _ => rfl
  | p :: r, x, v => by
    by_cases hp : p.1 = x
    · simp [setM, hp, idxM]
    · simp only [setM, hp, if_false, List.length_cons, length_setM r x v, idxM, Option.isSome_map]
      split <;> rfl
theorem idxM_lt : ∀ {m : List (κ × ν)} {x : κ} {j : Nat}, idxM m x = some j → ∃ p, m[j]? = some p ∧ p.1 = x
  | [], _, _, h => by simp [idxM] at h
  | p :: r, x, j, h => by
    by_cases hp : p.1 = x
    · simp [idxM, hp] at h
      subst h
      exact ⟨p, rfl, hp⟩
    · simp [idxM, hp] at h
      obtain ⟨j', h', rfl⟩ := h
      simpa using idxM_lt h'
/-- 'm[k] = v' -/
theorem r_mapUpdate {x y z : Operand} {k : κ} {v : ν} {S : Nat → Prop} {w0 : World} {L : List Res} (i : Nat) (h : o.op = .mapUpdate t x y z) (hu : P.underlying t = some (.map kt et)) (K : KeyLaw P kt enc) (hx : ρ x = .map (some b)) (hy : ρ y = enc k) (hz : ρ z = venc v)
    (hL : Has w L) (hE : Ext S w0 w) (hi : L[i]? = some (.blk b (mapObj enc venc m))) (hS : b < w0.heap.size → S b) :
    ∃ w', (execOp ρ o).run P w = .ok .skip w' ∧ Has w' (L.set i (.blk b (mapObj enc venc (setM m k v)))) ∧ Ext S w0 w' ∧ w'.heap.size = w.heap.size ∧ (∀ k, k ≠ b → w'.heap[k]? = w.heap[k]?) := by
  have hb := hL.get i hi
  have hlt : b < w.heap.size := (Array.getElem?_eq_some_iff.1 hb).1
  let w' : World := { w with heap := w.heap.setIfInBounds b (mapObj enc venc (setM m k v)) }
  have hb' : w'.heap[b]? = some (mapObj enc venc (setM m k v)) := by simp [w', hlt]
  have hk : ∀ k, k ≠ b → w'.heap[k]? = w.heap[k]? := fun k hk => by simp [w', Array.getElem?_setIfInBounds_ne (Ne.symm hk)]
  have hset : ∀ ob, (setObj b ob).run P w = .ok () { w with heap := w.heap.setIfInBounds b ob } := fun ob => by simp [setObj, Sem.run, hb, mapObj]
  refine ⟨w', ?_, hL.setAt (r' := .blk b _) i hi hb' (fun c hc => .inl hc) (fun k _ hne => hk k (fun e => hne (by rw [e]; rfl))), ⟨hE.os, hE.tape, hE.output, by simpa [w'] using hE.size, fun j hj hs => ?_⟩, by simp [w'], hk⟩
  · have hkey : ∀ old, old = enc k → (Instr.keyThatStays old (enc k)).run P w = .ok (enc k) w := by
      rintro _ rfl
      simp [Instr.keyThatStays, K.bits]
    simp only [execOp, h, Instr.mapUpdate, Sem.run_bind, run_underlying hu, Result.andThen_ok, hx, hy, hz, getObj_map hb, mapObj]
    rw [K.check]
    simp only [Result.andThen_ok, run_findKey K]
    cases h2 : idxM m k with
    | none =>
      simp only [Option.bind_none, Sem.run_bind, hset, Result.andThen_ok, Sem.run_pure]
      congr 2
      simp only [w', mapObj]
      have h3 := setM_none (enc := enc) (venc := venc) 0 m k v h2
      have h4 := length_setM m k v
      rw [h2] at h4
      simp only [Nat.zero_add] at h3
      congr 2
      · rw [← h3]
        simp
      · rw [h4]
        rfl
    | some j =>
      obtain ⟨p, hp, hpk⟩ := idxM_lt h2
      cases h1 : getM m k with
      | none => rw [idxM_none.2 h1] at h2; cases h2
      | some u =>
        have hent : ((entsM enc venc 0 m).toArray[j]?).map (·.key) = some (enc k) := by
          simp [getElem?_entsM, hp, hpk]
        simp only [Option.bind_some, Option.map_some, Sem.run_bind, hent, Option.getD_some, hkey _ rfl, hset, Result.andThen_ok, Sem.run_pure]
        congr 2
        simp only [w', mapObj]
        have h3 := setM_idx (enc := enc) (venc := venc) 0 m k v j h2
        have h4 := length_setM m k v
        rw [h2] at h4
        congr 2
        · rw [← h3]
          simp
        · rw [h4]
          rfl
  · have hjb : j ≠ b := fun e => hs (by subst e; exact hS hj)
    rw [hk j hjb]
    exact hE.block j hj hs
end

/-! ### Key types -/
theorem findAsking_law {P : Program} {kt : TypeId} {κ : Type} [DecidableEq κ] {enc : κ → Value} (heq : ∀ x y w, (Op.equal kt (enc x) (enc y)).run P w = .ok (decide (x = y)) w) (x : κ) : ∀ (ks : List κ) (es : List MapEntry) (i : Nat), es.map (·.key) = ks.map enc →
    ∀ w, (Instr.findAsking kt (enc x) es i).run P w = .ok ((ks.findIdx? (· = x)).bind fun j => (es[j]?).map fun e => (i + j, e.val)) w
  | [], [], _, _, _ => rfl
  | k :: ks, e :: es, i, h, w => by
    simp only [List.map_cons, List.cons.injEq] at h
    simp only [Instr.findAsking, Sem.run_bind, h.1, heq, Result.andThen_ok]
    by_cases hk : x = k
    · subst hk
      simp [List.findIdx?_cons]
    · have hk' : ¬ k = x := fun e => hk e.symm
      simp only [hk, decide_false, Bool.false_eq_true, if_false, findAsking_law heq x ks es (i + 1) h.2 w, List.findIdx?_cons, hk']
      cases ks.findIdx? (· = x) with
      | none => rfl
      | some j =>
        simp only [Option.bind_some, Option.map_some, List.getElem?_cons_succ]
        rw [show i + 1 + j = i + (j + 1) from by omega]
  | [], _ :: _, _, h, _ => by simp at h
  | _ :: _, [], _, h, _ => by simp at h
theorem findNow_law {kind : TypeDesc} {κ : Type} [DecidableEq κ] {enc : κ → Value} (hs : ∀ x y, Instr.sameNow kind (enc x) (enc y) = some (decide (x = y))) (x : κ) : ∀ (ks : List κ) (es : List MapEntry) (i : Nat), es.map (·.key) = ks.map enc →
    Instr.findNow kind (enc x) es i = some ((ks.findIdx? (· = x)).bind fun j => (es[j]?).map fun e => (i + j, e.val))
  | [], [], _, _ => rfl
  | k :: ks, e :: es, i, h => by
    simp only [List.map_cons, List.cons.injEq] at h
    simp only [Instr.findNow, h.1, hs]
    by_cases hk : x = k
    · subst hk
      simp [List.findIdx?_cons]
    · have hk' : ¬ k = x := fun e => hk e.symm
      simp only [hk, decide_false, findNow_law hs x ks es (i + 1) h.2, List.findIdx?_cons, hk', Bool.false_eq_true, if_false]
      cases ks.findIdx? (· = x) with
      | none => rfl
      | some j =>
        simp only [Option.bind_some, Option.map_some, List.getElem?_cons_succ]
        rw [show i + 1 + j = i + (j + 1) from by omega]
  | [], _ :: _, _, h => by simp at h
  | _ :: _, [], _, h => by simp at h
theorem KeyLaw.int {P : Program} {kt : TypeId} {k : IntKind} (hu : P.underlying kt = some (.int k)) : KeyLaw P kt (Value.int k) where
  check b x w := by
    rw [show (10000 : Nat) = 9999 + 1 from rfl, Instr.checkKey]
    simp [run_underlying hu]
  bits x := by simp [Instr.sameBits]
  find x ks es h w := by
    have := findNow_law (kind := .int k) (enc := Value.int k) (fun x y => by simp [Instr.sameNow]; rfl) x ks es 0 h
    simp only [Instr.findKey, Sem.run_bind, run_underlying hu, Result.andThen_ok, this, Sem.run_pure]
    simp
theorem KeyLaw.string {P : Program} {kt : TypeId} (hu : P.underlying kt = some .string) : KeyLaw P kt Value.string where
  check b x w := by
    rw [show (10000 : Nat) = 9999 + 1 from rfl, Instr.checkKey]
    simp [run_underlying hu]
  bits x := by simp only [Instr.sameBits, beq_toListBytes, str_beq]; simp
  find x ks es h w := by
    have := findNow_law (kind := .string) (enc := Value.string) (fun x y => by simp only [Instr.sameNow, beq_toListBytes, str_beq]) x ks es 0 h
    simp only [Instr.findKey, Sem.run_bind, run_underlying hu, Result.andThen_ok, this, Sem.run_pure]
    simp
/-- Two whole numbers in a struct. -/
def enc2 (p : Int × Int) : Value := .agg #[.int .i64 p.1, .int .i64 p.2]
theorem KeyLaw.pair {P : Program} {kt : TypeId} (heq : ∀ a b c d w, (Op.equal kt (.agg #[.int .i64 a, .int .i64 b]) (.agg #[.int .i64 c, .int .i64 d])).run P w = .ok (decide (a = c) && decide (b = d)) w)
    (hck : ∀ e a b w, (Instr.checkKey e 10000 kt (.agg #[.int .i64 a, .int .i64 b])).run P w = .ok () w) {fs : Array Field} (hu : P.underlying kt = some (.struct fs)) : KeyLaw P kt enc2 where
  check b x w := hck b x.1 x.2 w
  bits x := by
    rw [show (10000 : Nat) = 9999 + 1 from rfl]
    simp [enc2, Instr.sameBits]
  find x ks es h w := by
    have hq : ∀ x y w, (Op.equal kt (enc2 x) (enc2 y)).run P w = .ok (decide (x = y)) w := fun x y w => by
      rw [enc2, enc2, heq]
      congr 1
      rw [← Bool.decide_and]
      congr 1
      exact propext Prod.ext_iff.symm
    have hl := findAsking_law hq x ks es 0 h w
    cases es with
    | nil =>
      have : ks = [] := by simpa using h.symm
      subst this
      simp [Instr.findKey, run_underlying hu, Instr.findNow]
    | cons e es =>
      have hn : Instr.findNow (.struct fs) (enc2 x) (e :: es) 0 = none := by
        simp only [Instr.findNow, Instr.sameNow]
      simp only [Instr.findKey, Sem.run_bind, run_underlying hu, Result.andThen_ok, hn, hl]
      simp
end Go.Proofs.YtndophlnapjkhaaDoor.Vc
