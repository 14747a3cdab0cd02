/- Calls, lengths, slicings, appends, the least and the greatest, going through a map: runs as equations. For any program whose types are as the premises say. -/
import Derived.Test.YtndophlnapjkhaaDoorMap
import Derived.Maps.AppendAt
namespace Go.Proofs.YtndophlnapjkhaaDoor.Vc
open Go Go.RowKit
set_option linter.unusedSimpArgs false
set_option linter.unusedSectionVars false
section
variable {P : Program} {w : World} {ρ : Operand → Value} {o : Oper}
/-! ### Calls -/
theorem r_call {f : Operand} {as : Array Operand} {ts : Array TypeId} {g : FuncId} {fs cs : Array Value} {fn : Func} {c : Code} (h : o.op = .call { callee := .value f, args := as, argTypes := ts }) (hf : ρ f = .func (.func g) fs cs) (hg : P.funcs[g]? = some fn) (hn : (fn.name == "runtime.NumGoroutine") = false) (hb : fn.body = some c) :
    (execOp ρ o).run P w = .ok (.enter g (fs.toList ++ (as.toList.map ρ ++ cs.toList)).toArray) w := by
  have h1 : fn.name ≠ "runtime.NumGoroutine" := by simpa using hn
  have h2 : (fs.toList ++ (as.toList.map ρ ++ cs.toList)).toArray = fs ++ as.map ρ ++ cs := by
    apply Array.ext'
    simp
  rw [h2]
  simp [execOp, h, resolve, hf, Deferred.ofValue, invoke, callFunc, hg, h1, hb, Array.append_assoc]
/-! ### Lengths -/
theorem r_len {x : Operand} {t el : TypeId} {A : Option Addr} {n c : Nat} (h : o.op = .call { callee := .builtin .len, args := #[x], argTypes := #[t] }) (hu : P.underlying t = some (.slice el)) (hx : ρ x = .slice A n c) : (execOp ρ o).run P w = .ok (.value (.int .i64 n)) w := by
  simp [execOp, h, resolve, invoke, builtin, Builtin.len_, run_underlying hu, hx, goInt]
theorem r_len_str {x : Operand} {t : TypeId} {s : ByteArray} (h : o.op = .call { callee := .builtin .len, args := #[x], argTypes := #[t] }) (hu : P.underlying t = some .string) (hx : ρ x = .string s) : (execOp ρ o).run P w = .ok (.value (.int .i64 s.size)) w := by
  simp [execOp, h, resolve, invoke, builtin, Builtin.len_, run_underlying hu, hx, goInt]
theorem r_min {x y : Operand} {t1 t2 : TypeId} {k : IntKind} {a b : Int} (h : o.op = .call { callee := .builtin .min, args := #[x, y], argTypes := #[t1, t2] }) (hx : ρ x = .int k a) (hy : ρ y = .int k b) : (execOp ρ o).run P w = .ok (.value (.int k (if b < a then b else a))) w := by
  simp [execOp, h, resolve, invoke, builtin, Builtin.min_, Builtin.min2, hx, hy]
theorem r_conv_int {x : Operand} {t u : TypeId} {k k' : IntKind} {a : Int} (h : o.op = .convert t u x) (ht : P.underlying t = some (.int k)) (hu : P.underlying u = some (.int k')) (hx : ρ x = .int k a) : (execOp ρ o).run P w = .ok (.value (.int k' (k'.wrap a))) w := by
  simp [execOp, h, convert, run_underlying ht, run_underlying hu, hx, Conv.intToInt]
theorem r_conv_str {x : Operand} {t u : TypeId} {s : ByteArray} (h : o.op = .convert t u x) (ht : P.underlying t = some .string) (hu : P.underlying u = some .string) (hx : ρ x = .string s) : (execOp ρ o).run P w = .ok (.value (.string s)) w := by
  simp [execOp, h, convert, run_underlying ht, run_underlying hu, hx]
/-! ### Slicings -/
theorem r_eql_nil {x : Operand} {t t' el : TypeId} {A : Option Addr} {n c n' c' : Nat} (h : o.op = .binOp .eql t x (.const (.slice none n' c')) t') (hρ : ρ (.const (.slice none n' c')) = .slice none n' c') (hu : P.underlying t = some (.slice el)) (hx : ρ x = .slice A n c) : (execOp ρ o).run P w = .ok (.value (.bool A.isNone)) w := by
  have := Lib.run_eql_slice_nil (P := P) w t el A n c n' c' hu
  simp [execOp, h, hx, hρ, eqGuard, this]
theorem r_neq_nil {x : Operand} {t t' el : TypeId} {A : Option Addr} {n c n' c' : Nat} (h : o.op = .binOp .neq t x (.const (.slice none n' c')) t') (hρ : ρ (.const (.slice none n' c')) = .slice none n' c') (hu : P.underlying t = some (.slice el)) (hx : ρ x = .slice A n c) : (execOp ρ o).run P w = .ok (.value (.bool (!A.isNone))) w := by
  have := run_neq_slice_nil_any (P := P) w t el A n c n' c' hu
  simp [execOp, h, hx, hρ, eqGuard, this]
/-- 'xs[i:]' -/
theorem r_slice_from {x i : Operand} {t el : TypeId} {A : Option Addr} {n c sz : Nat} {k : IntKind} {a : Int} (h : o.op = .slice t x (some i) none none) (hu : P.underlying t = some (.slice el)) (hs : Sized P el sz) (hx : ρ x = .slice A n c) (hi : ρ i = .int k a) (h0 : 0 ≤ a) (h1 : a ≤ n) :
    (execOp ρ o).run P w = .ok (.value (.slice (if c = a.toNat then A else A.map (·.add (a.toNat * sz))) (n - a.toNat) (c - a.toNat))) w := by
  have hb : (Instr.sliceBound (.int k a) n .sliceB).run P w = .ok a.toNat w := run_sliceBound w k a n .sliceB h0 h1
  simp [execOp, h, Instr.sliceAt, run_underlying hu, Instr.slice, hx, hi, Instr.sliceBounds, hb, hs w]
/-- 'xs[:i]' -/
theorem r_slice_to {x i : Operand} {t el : TypeId} {A : Option Addr} {n c sz : Nat} {k : IntKind} {a : Int} (h : o.op = .slice t x none (some i) none) (hu : P.underlying t = some (.slice el)) (hs : Sized P el sz) (hx : ρ x = .slice A n c) (hi : ρ i = .int k a) (h0 : 0 ≤ a) (h1 : a ≤ c) :
    (execOp ρ o).run P w = .ok (.value (.slice A a.toNat c)) w := by
  have hb : (Instr.sliceBound (.int k a) c .sliceAcap).run P w = .ok a.toNat w := run_sliceBound w k a c .sliceAcap h0 h1
  simp [execOp, h, Instr.sliceAt, run_underlying hu, Instr.slice, hx, hi, Instr.sliceBounds, hb, hs w]
  intro h2
  cases A with
  | none => rfl
  | some ad => simp [Addr.add]
/-- 's[:i]', 's[i:]' -/
theorem r_str_to {x i : Operand} {t : TypeId} {s : ByteArray} {k : IntKind} {a : Int} (h : o.op = .slice t x none (some i) none) (hu : P.underlying t = some .string) (hx : ρ x = .string s) (hi : ρ i = .int k a) (h0 : 0 ≤ a) (h1 : a ≤ s.size) :
    (execOp ρ o).run P w = .ok (.value (.string (s.extract 0 a.toNat))) w := by
  have hb : (Instr.sliceBound (.int k a) s.size .sliceAlen).run P w = .ok a.toNat w := run_sliceBound w k a s.size .sliceAlen h0 h1
  simp [execOp, h, Instr.sliceAt, run_underlying hu, Instr.slice, hx, hi, Instr.sliceBounds, hb]
theorem r_str_from {x i : Operand} {t : TypeId} {s : ByteArray} {k : IntKind} {a : Int} (h : o.op = .slice t x (some i) none none) (hu : P.underlying t = some .string) (hx : ρ x = .string s) (hi : ρ i = .int k a) (h0 : 0 ≤ a) (h1 : a ≤ s.size) :
    (execOp ρ o).run P w = .ok (.value (.string (s.extract a.toNat s.size))) w := by
  have hb : (Instr.sliceBound (.int k a) s.size .sliceB).run P w = .ok a.toNat w := run_sliceBound w k a s.size .sliceB h0 h1
  simp [execOp, h, Instr.sliceAt, run_underlying hu, Instr.slice, hx, hi, Instr.sliceBounds, hb]
/-! ### Appends -/
/-- 'append(v, ys...)', v a row of one's own, ys read in memory. -/
theorem r_append {x y : Operand} {t el : TypeId} {base sz n m c bytes : Nat} {v z : Value} {a : Addr} {xs ys : List Value} {S : Nat → Prop} {w0 : World} {L : List Res} (i : Nat) (h : o.op = .call { callee := .builtin .append, args := #[x, y], argTypes := #[t, t] })
    (hu : P.underlying t = some (.slice el)) (hinfo : (P.info? el).map (fun i => (i.zero, i.size, i.bytes)) = some (some z, sz, bytes)) (hz : z.cells.size = sz) (hsz : 0 < sz) (hx : ρ x = v) (hy : ρ y = .slice (some a) m c)
    (hL : Has w L) (hE : Ext S w0 w) (hi : L[i]? = some (.row base el sz v n xs)) (hlen : ys.length = m * sz) (hys : ∀ j u, ys[j]? = some u → w.cell? (a.add j) = some u) (h1 : ∀ u ∈ ys, u.oneCell' = true) (hbytes : (n + m) * bytes ≤ 140737488355328) (h63 : n + m ≤ 9223372036854775807) (hbase : w0.heap.size ≤ base) (hbw : base ≤ w.heap.size) :
    ∃ v' w', (execOp ρ o).run P w = .ok (.value v') w' ∧ Has w' (L.set i (.row base el sz v' (n + m) (xs ++ ys))) ∧ Ext S w0 w' ∧ (∀ b, b < w.heap.size → v.ownBlock ≠ some b → w'.heap[b]? = w.heap[b]?) := by
  obtain ⟨i0, hinf, hzz⟩ := Option.map_eq_some_iff.1 hinfo
  simp only [Prod.mk.injEq] at hzz
  obtain ⟨hz0, hz1, hz2⟩ := hzz
  have hrow := hL.row i hi
  obtain ⟨v', w', hr, hown, hg, _, hat⟩ := run_append_own_at (P := P) w base t o.type el i0 z sz bytes hu hinf hz0 hz1 hz2 hz hsz v n xs hrow a m c ys hlen hys h1 (by simp only [maxLen]; omega) hbytes hbw
  refine ⟨v', w', ?_, hL.setAt (r' := .row base el sz v' (n + m) (xs ++ ys)) i hi hown (fun b hb => ?_) (fun k hk hne => hg.block k hk (fun e => hne (show v.ownBlock = some k from e.symm))), ⟨hg.os.trans hE.os, hg.tape.trans hE.tape, hg.output.trans hE.output, Nat.le_trans hE.size hg.size, fun k hk hs => ?_⟩, fun b hb hne => hg.block b hb (fun e => hne e.symm)⟩
  · simp [execOp, h, resolve, invoke, builtin, hx, hy, hr]
  · change v'.ownBlock = some b at hb
    rcases hat with hat | hat
    · exact .inl (show v.ownBlock = some b by rw [← hat]; exact hb)
    · rw [hat] at hb
      injection hb with hb
      exact .inr (by omega)
  · rw [hg.block k (Nat.lt_of_lt_of_le hk hE.size) (fun e => by have := (ownsRow_lt hrow e.symm).2; omega)]
    exact hE.block k hk hs
end

/-! ### Going through a map -/
section
variable {κ ν : Type} [DecidableEq κ] {P : Program} {w : World} {ρ : Operand → Value} {o : Oper} {kt et t : TypeId} {enc : κ → Value} {venc : ν → Value} {m : List (κ × ν)} {b : Nat}
theorem r_range {x : Operand} (h : o.op = .range t x) (hu : P.underlying t = some (.map kt et)) (hx : ρ x = .map (some b)) (hb : w.heap[b]? = some (mapObj enc venc m)) : (execOp ρ o).run P w = .ok (.value (.pointer (some ⟨w.heap.size, 0, none⟩))) (w.alloc (.mapIter (some b) m.length #[] m.length)) := by
  simp only [execOp, h, Instr.range, Sem.run_bind, run_underlying hu, Result.andThen_ok, hx, getObj_map hb, mapObj, Sem.run_pure]
  simp
theorem filter_entsM (p : MapEntry → Bool) (i : Nat) (m : List (κ × ν)) (e : MapEntry) (h : e ∈ (entsM enc venc i m).filter p) : ∃ j q, m[j]? = some q ∧ e = ⟨enc q.1, venc q.2, i + j⟩ ∧ p e = true := by
  obtain ⟨h1, h2⟩ := List.mem_filter.1 h
  obtain ⟨j, hj⟩ := List.mem_iff_getElem?.1 h1
  rw [getElem?_entsM, Option.map_eq_some_iff] at hj
  obtain ⟨q, hq, rfl⟩ := hj
  exact ⟨j, q, hq, rfl, h2⟩
/-- One step of 'for k := range m': all have been gone through, or one that has not. -/
theorem r_next {x : Operand} {it : Nat} {seen : Array Nat} {S : Nat → Prop} {w0 : World} {L : List Res} (i : Nat) (h : o.op = .next x false) (hx : ρ x = .pointer (some ⟨it, 0, none⟩)) (hb : w.heap[b]? = some (mapObj enc venc m))
    (hL : Has w L) (hE : Ext S w0 w) (hi : L[i]? = some (.blk it (.mapIter (some b) m.length seen m.length))) (hS : it < w0.heap.size → S it) :
    ((∀ j, j < m.length → j ∈ seen) ∧ ∃ w' : World, (execOp ρ o).run P w = .ok (.value (.tuple #[.bool false])) w' ∧ Has w' L ∧ Ext S w0 w' ∧ (∀ k : Nat, w'.heap[k]? = w.heap[k]?)) ∨
    (∃ (j : Nat) (q : κ × ν) (w' : World), m[j]? = some q ∧ j ∉ seen ∧ (execOp ρ o).run P w = .ok (.value (.tuple #[.bool true, enc q.1, venc q.2])) w' ∧ Has w' (L.set i (.blk it (.mapIter (some b) m.length (seen.push j) m.length))) ∧ Ext S w0 w' ∧ (∀ k : Nat, k ≠ it → w'.heap[k]? = w.heap[k]?)) := by
  have hit := hL.get i hi
  have hgi : (getObj it).run P w = .ok (.mapIter (some b) m.length seen m.length) w := by simp [getObj, Sem.run, hit]
  have hltit : it < w.heap.size := (Array.getElem?_eq_some_iff.1 hit).1
  obtain ⟨left, hleft⟩ : ∃ left : Array MapEntry, left = (entsM enc venc 0 m).toArray.filter fun e => !seen.contains e.born := ⟨_, rfl⟩
  have hmem : ∀ e ∈ left, ∃ j q, m[j]? = some q ∧ e = ⟨enc q.1, venc q.2, j⟩ ∧ j ∉ seen := by
    intro e he
    have he' : e ∈ (entsM enc venc 0 m).filter fun e => !seen.contains e.born := by rw [hleft] at he; simpa using he
    obtain ⟨j, q, hq, rfl, hp⟩ := filter_entsM _ 0 m e he'
    exact ⟨j, q, hq, by simp, by simpa using hp⟩
  have hborn : ∀ e ∈ left, e.born < m.length := by
    intro e he
    obtain ⟨j, q, hq, rfl, _⟩ := hmem e he
    exact (List.getElem?_eq_some_iff.1 hq).1
  have hold : left.filter (·.born < m.length) = left := by
    apply Array.filter_eq_self.2
    intro e he
    simpa using hborn e he
  have hnew : left.filter (·.born ≥ m.length) = #[] := by
    rw [Array.filter_eq_empty_iff]
    intro e he
    have := hborn e he
    simpa using this
  have hgone : ((!seen.isEmpty && !(entsM enc venc 0 m).toArray.isEmpty && (entsM enc venc 0 m).toArray.all (·.born ≥ m.length)) = true) = False := by
    rw [eq_iff_iff, iff_false]
    cases m with
    | nil => simp [entsM]
    | cons p r => simp [entsM]
  by_cases he : left = #[]
  · refine .inl ⟨fun j hj => ?_, w, ?_, hL, hE, fun _ => rfl⟩
    · have h1 : (⟨enc (m[j]'hj).1, venc (m[j]'hj).2, 0 + j⟩ : MapEntry) ∈ entsM enc venc 0 m := List.mem_iff_getElem?.2 ⟨j, by rw [getElem?_entsM, List.getElem?_eq_getElem hj]; rfl⟩
      have h2 : ∀ e ∈ entsM enc venc 0 m, e.born ∈ seen := by
        have := Array.filter_eq_empty_iff.1 (hleft.symm.trans he)
        intro e hee
        simpa using this e (by simpa using hee)
      simpa using h2 _ h1
    · simp only [execOp, h, Instr.next, Sem.run_bind, hx, hgi, Result.andThen_ok, getObj_map hb, mapObj, hgone, if_false]
      rw [← hleft, hold, hnew, he]
      simp [choose, Sem.run, Question.forced]
  · have hne : left.isEmpty = false := by simpa using he
    have hsz : 0 < left.size := Array.size_pos_iff.2 he
    obtain ⟨nn, w1, hch, hlt, hw1⟩ : ∃ (nn : Nat) (w1 : World), (choose (.mapNext left.size)).run P w = .ok nn w1 ∧ nn < left.size ∧ (w1 = w ∨ w1 = w.drew) := by
      by_cases hf : (Question.mapNext left.size).forced = true
      · exact ⟨0, w, by simp [choose, Sem.run, hf], hsz, .inl rfl⟩
      · exact ⟨(Question.mapNext left.size).cut (w.tape w.drawn (.mapNext left.size)), w.drew, by simp [choose, Sem.run, hf], Nat.mod_lt _ hsz, .inr rfl⟩
    obtain ⟨j, q, hq, hent, hjs⟩ := hmem (left[nn]'hlt) (Array.getElem_mem hlt)
    have hit1 : w1.heap[it]? = some (.mapIter (some b) m.length seen m.length) := by rcases hw1 with rfl | rfl <;> exact hit
    have hset : (setObj it (.mapIter (some b) m.length (seen.push j) m.length)).run P w1 = .ok () { w1 with heap := w1.heap.setIfInBounds it (.mapIter (some b) m.length (seen.push j) m.length) } := by simp [setObj, Sem.run, hit1]
    have hk1 : ∀ k : Nat, w1.heap[k]? = w.heap[k]? := by rcases hw1 with rfl | rfl <;> exact fun _ => rfl
    have hs1 : w1.heap.size = w.heap.size := by rcases hw1 with rfl | rfl <;> rfl
    have hk : ∀ k : Nat, k ≠ it → ({ w1 with heap := w1.heap.setIfInBounds it (.mapIter (some b) m.length (seen.push j) m.length) } : World).heap[k]? = w.heap[k]? := fun k hk => by
      rw [← hk1 k]
      simp [Array.getElem?_setIfInBounds_ne (Ne.symm hk)]
    have hos : w1.os = w.os ∧ w1.tape = w.tape ∧ w1.output = w.output := by rcases hw1 with rfl | rfl <;> exact ⟨rfl, rfl, rfl⟩
    refine .inr ⟨j, q, { w1 with heap := w1.heap.setIfInBounds it (.mapIter (some b) m.length (seen.push j) m.length) }, hq, hjs, ?_, hL.setAt (r' := .blk it _) i hi (by simp [Res.holds, hs1, hltit]) (fun c hc => .inl hc) (fun k _ hne => hk k (fun e => hne (by rw [e]; rfl))), ⟨hos.1.trans hE.os, hos.2.1.trans hE.tape, hos.2.2.trans hE.output, by simp [hs1]; exact hE.size, fun k hk0 hs => ?_⟩, hk⟩
    · simp only [execOp, h, Instr.next, Sem.run_bind, hx, hgi, Result.andThen_ok, getObj_map hb, mapObj, hgone, if_false]
      rw [← hleft, hold, hnew, hne]
      have hcand : ((if false = true then #[none] else #[]) ++ Array.map some (left ++ #[])) = left.map some := by simp
      have hget : (left.map some)[nn]? = some (some ⟨enc q.1, venc q.2, j⟩) := by simp [hlt, hent]
      simp only [hcand, Array.size_map, hch, Result.andThen_ok, hget, Sem.run_bind, hset, Sem.run_pure]
    · rw [hk k (fun e => hs (by subst e; exact hS hk0))]
      exact hE.block k hk0 hs
/-- The key at which 'for k := range m' stands. -/
theorem r_entry {x : Operand} {it j : Nat} {q : κ × ν} {seen : Array Nat} (h : o.op = .entry x) (hx : ρ x = .pointer (some ⟨it, 0, none⟩)) (hb : w.heap[b]? = some (mapObj enc venc m)) (hi : w.heap[it]? = some (.mapIter (some b) m.length (seen.push j) m.length)) (hj : m[j]? = some q) :
    (execOp ρ o).run P w = .ok (.value (.tuple #[enc q.1, venc q.2])) w := by
  have hgi : (getObj it).run P w = .ok (.mapIter (some b) m.length (seen.push j) m.length) w := by simp [getObj, Sem.run, hi]
  have hfind : (entsM enc venc 0 m).toArray.find? (·.born == j) = some ⟨enc q.1, venc q.2, j⟩ := by
    have key : ∀ (i : Nat) (m : List (κ × ν)) (j : Nat) (q : κ × ν), m[j]? = some q → (entsM enc venc i m).find? (fun e => e.born == i + j) = some ⟨enc q.1, venc q.2, i + j⟩ := by
      intro i m
      induction m generalizing i with
      | nil => intro j q h; simp at h
      | cons p r ih =>
        intro j q h
        cases j with
        | zero =>
          have : p = q := by simpa using h
          subst this
          simp [entsM, List.find?_cons]
        | succ j =>
          have hne : (i == i + (j + 1)) = false := by simp
          rw [entsM, List.find?_cons]
          simp only [hne]
          have := ih (i + 1) j q (by simpa using h)
          rw [show i + 1 + j = i + (j + 1) from by omega] at this
          exact this
    have := key 0 m j q hj
    simpa using this
  simp only [execOp, h, Instr.entry, Sem.run_bind, hx, hgi, Result.andThen_ok, getObj_map hb, mapObj]
  simp [getObj_map hb, mapObj, hfind]
end
end Go.Proofs.YtndophlnapjkhaaDoor.Vc
