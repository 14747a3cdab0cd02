/- FactNeeded gives true. Conditions: those of each statement. -/
import Derived.Test.YtndophlnapjkhaaDoorLaw6
namespace Go.Proofs.YtndophlnapjkhaaDoor.Vc
open Go Go.RowKit
set_option linter.unusedVariables false
set_option linter.unusedSimpArgs false

/-- What is marked (1) and what waits, facts gone through from some on; (i, n): fact i is marked, of its numbers the first n have been asked. -/
structure SeenIs (g : List GNode) (l : List Fact) (at_ sv q : List Int) (cur : Option (Int × Nat)) : Prop where
  len : sv.length = l.length
  bits : ∀ i : Nat, i < sv.length → iat sv i = 0 ∨ iat sv i = 1
  inn : ∀ x ∈ q, 0 ≤ x ∧ x < l.length
  start : ∀ a ∈ at_, iat sv a = 1 ∨ a ∈ q
  done : ∀ i : Int, 0 ≤ i → i < l.length → iat sv i = 1 → (∀ n, cur ≠ some (i, n)) → ∀ j ∈ onF g (fat l i), iat sv j = 1 ∨ j ∈ q
  now : ∀ i n, cur = some (i, n) → ∀ m : Nat, m < n → (0 < m ∨ (gat g (fat l i).a).kind = 8) → m < (fat l i).why.length → iat sv (iat (fat l i).why m) = 1 ∨ iat (fat l i).why m ∈ q
def zeros (sv : List Int) : Nat := (sv.map fun x => if x = 1 then 0 else 1).sum
theorem iat_set {sv : List Int} {i : Int} (h0 : 0 ≤ i) (h1 : i < sv.length) (j : Int) (hj : 0 ≤ j) : iat (sv.set i.toNat 1) j = if j = i then 1 else iat sv j := by
  unfold iat
  rw [List.getD_eq_getElem?_getD, List.getD_eq_getElem?_getD, List.getElem?_set]
  by_cases e : j = i
  · subst e
    rw [if_pos rfl, if_pos rfl, if_pos (by omega)]
    rfl
  · rw [if_neg (by omega), if_neg e]
theorem zeros_set : ∀ (sv : List Int) (i : Nat), i < sv.length → sv.getD i 0 ≠ 1 → zeros (sv.set i 1) + 1 = zeros sv
  | [], i, h, _ => by simp at h
  | x :: r, 0, _, h => by
    have hx : x ≠ 1 := by simpa using h
    simp [zeros, hx]
    omega
  | x :: r, i + 1, h, hx => by
    have ih := zeros_set r i (by simpa using h) (by simpa using hx)
    simp only [zeros, List.set_cons_succ, List.map_cons, List.sum_cons] at *
    omega
theorem zeros_le (sv : List Int) : zeros sv ≤ sv.length := by
  induction sv with
  | nil => simp [zeros]
  | cons x r ih =>
    simp only [zeros, List.map_cons, List.sum_cons, List.length_cons] at *
    split <;> omega
theorem on_mem {g : List GNode} {f : Fact} {j : Int} (h : j ∈ onF g f) : ∃ m : Nat, m < f.why.length ∧ (0 < m ∨ (gat g f.a).kind = 8) ∧ iat f.why m = j := by
  unfold onF at h
  split at h
  · rename_i h8
    obtain ⟨m, hm⟩ := List.mem_iff_getElem?.1 h
    have hl := (List.getElem?_eq_some_iff.1 hm).1
    have := iat_nat hl
    rw [hm] at this
    injection this with this
    exact ⟨m, hl, .inr h8, this.symm⟩
  · obtain ⟨m, hm⟩ := List.mem_iff_getElem?.1 h
    rw [List.getElem?_drop] at hm
    have hl := (List.getElem?_eq_some_iff.1 hm).1
    have := iat_nat hl
    rw [hm] at this
    injection this with this
    exact ⟨1 + m, hl, .inl (by omega), this.symm⟩
section
variable {g : List GNode} {l : List Fact} {at_ sv q : List Int}
theorem SeenIs.begin (n : Nat) (hn : n = l.length) (hat : ∀ a ∈ at_, 0 ≤ a ∧ a < l.length) : SeenIs g l at_ (List.replicate n 0) at_ none := by
  have hz : ∀ i : Int, iat (List.replicate n (0 : Int)) i = 0 := fun i => by
    unfold iat
    rw [List.getD_eq_getElem?_getD, List.getElem?_replicate]
    split <;> rfl
  exact ⟨by simp [hn], fun i _ => .inl (hz i), hat, fun a ha => .inr ha, fun i _ _ h1 => (by rw [hz] at h1; cases h1), fun i n h => (by cases h)⟩
theorem SeenIs.skip {i : Int} (h : SeenIs g l at_ sv (i :: q) none) (h1 : iat sv i = 1) : SeenIs g l at_ sv q none := by
  have key : ∀ x, iat sv x = 1 ∨ x ∈ i :: q → iat sv x = 1 ∨ x ∈ q := fun x hx => by
    rcases hx with hx | hx
    · exact .inl hx
    · rcases List.mem_cons.1 hx with rfl | hx
      · exact .inl h1
      · exact .inr hx
  exact ⟨h.len, h.bits, fun x hx => h.inn x (List.mem_cons_of_mem _ hx), fun a ha => key a (h.start a ha), fun i' h0 h2 h3 hc j hj => key j (h.done i' h0 h2 h3 hc j hj), fun i' n hc => by cases hc⟩
theorem SeenIs.mark {i : Int} (h : SeenIs g l at_ sv (i :: q) none) (hin : ∀ k : Int, 0 ≤ k → k < l.length → ∀ j ∈ onF g (fat l k), 0 ≤ j) (hat : ∀ a ∈ at_, 0 ≤ a) : SeenIs g l at_ (sv.set i.toNat 1) q (some (i, 0)) := by
  obtain ⟨h0, h1⟩ := h.inn i List.mem_cons_self
  have hi : i < sv.length := by have := h.len; omega
  have hs := fun j hj => iat_set h0 hi j hj
  have key : ∀ x, 0 ≤ x → iat sv x = 1 ∨ x ∈ i :: q → iat (sv.set i.toNat 1) x = 1 ∨ x ∈ q := fun x hx0 hx => by
    rw [hs x hx0]
    by_cases e : x = i
    · rw [if_pos e]; exact .inl rfl
    · rw [if_neg e]
      rcases hx with hx | hx
      · exact .inl hx
      · exact .inr ((List.mem_cons.1 hx).resolve_left e)
  refine ⟨by simp [h.len], fun k hk => ?_, fun x hx => h.inn x (List.mem_cons_of_mem _ hx), fun a ha => key a (hat a ha) (h.start a ha), fun k hk0 hk1 hk hc j hj => ?_, fun k n hc m hm => ?_⟩
  · rw [hs k (by omega)]
    split
    · exact .inr rfl
    · exact h.bits k (by simpa using hk)
  · have hne : k ≠ i := fun e => hc 0 (by rw [e])
    rw [hs k hk0, if_neg hne] at hk
    exact key j (hin k hk0 hk1 j hj) (h.done k hk0 hk1 hk (fun n hn => by cases hn) j hj)
  · cases hc
    omega
theorem SeenIs.push {i : Int} {n : Nat} {x : Int} (h : SeenIs g l at_ sv q (some (i, n))) (hx : x = iat (fat l i).why n) (hin : 0 ≤ x ∧ x < l.length) : SeenIs g l at_ sv (q ++ [x]) (some (i, n + 1)) := by
  have key : ∀ y, iat sv y = 1 ∨ y ∈ q → iat sv y = 1 ∨ y ∈ q ++ [x] := fun y hy => hy.imp id (fun hy => List.mem_append_left _ hy)
  refine ⟨h.len, h.bits, fun y hy => ?_, fun a ha => key a (h.start a ha), fun k hk0 hk1 hk hc j hj => key j (h.done k hk0 hk1 hk (fun m hm => hc (n + 1) (by cases hm; rfl)) j hj), fun k m hc m' hm' hor hl => ?_⟩
  · rcases List.mem_append.1 hy with hy | hy
    · exact h.inn y hy
    · rw [List.mem_singleton] at hy
      subst hy
      exact hin
  · cases hc
    rcases Nat.lt_or_eq_of_le (Nat.le_of_lt_succ hm') with hlt | rfl
    · exact key _ (h.now _ _ rfl m' hlt hor hl)
    · exact .inr (List.mem_append_right _ (List.mem_singleton.2 hx.symm))
theorem SeenIs.pass {i : Int} {n : Nat} (h : SeenIs g l at_ sv q (some (i, n))) (hno : ¬ (0 < n ∨ (gat g (fat l i).a).kind = 8)) : SeenIs g l at_ sv q (some (i, n + 1)) := by
  refine ⟨h.len, h.bits, h.inn, h.start, fun k hk0 hk1 hk hc j hj => h.done k hk0 hk1 hk (fun m hm => hc (n + 1) (by cases hm; rfl)) j hj, fun k m hc m' hm' hor hl => ?_⟩
  cases hc
  rcases Nat.lt_or_eq_of_le (Nat.le_of_lt_succ hm') with hlt | rfl
  · exact h.now _ _ rfl m' hlt hor hl
  · exact absurd hor hno
theorem SeenIs.finish {i : Int} (h : SeenIs g l at_ sv q (some (i, (fat l i).why.length))) : SeenIs g l at_ sv q none := by
  refine ⟨h.len, h.bits, h.inn, h.start, fun k hk0 hk1 hk _ j hj => ?_, fun k m hc => by cases hc⟩
  by_cases e : k = i
  · subst e
    obtain ⟨m, hm, hor, hmj⟩ := on_mem hj
    rw [← hmj]
    exact h.now _ _ rfl m hm hor hm
  · exact h.done k hk0 hk1 hk (fun n hn => (by cases hn; exact e rfl)) j hj
theorem SeenIs.all (h : SeenIs g l at_ sv [] none) (hat : ∀ a ∈ at_, 0 ≤ a ∧ a < l.length) (hin : ∀ k : Int, 0 ≤ k → k < l.length → ∀ j ∈ onF g (fat l k), 0 ≤ j ∧ j < l.length) {a j : Int} (ha : a ∈ at_) (hr : Reach g l a j) : (0 ≤ j ∧ j < l.length) ∧ iat sv j = 1 := by
  induction hr with
  | refl =>
    refine ⟨hat a ha, ?_⟩
    rcases h.start a ha with h1 | h1
    · exact h1
    · simp at h1
  | step _ hj ih =>
    refine ⟨hin _ ih.1.1 ih.1.2 _ hj, ?_⟩
    rcases h.done _ ih.1.1 ih.1.2 ih.2 (fun n hn => by cases hn) _ hj with h1 | h1
    · exact h1
    · simp at h1
end
/-- A queue as a slice's value: nothing at all, or a part of a block. -/
def QV (v : Value) (q : List Int) (T : List Res) (B : Nat) : Prop := (q = [] ∧ v = .slice none 0 0 ∧ T = []) ∨ ∃ bq off cap cur, v = .slice (some ⟨bq, off, none⟩) q.length cap ∧ QAt cur off cap q ∧ T = [.blk bq (.cells cur 3 (0, 0))] ∧ B ≤ bq
theorem QV.of_row {w : World} {L : List Res} {B : Nat} {v : Value} {q : List Int} (h : Has w (.row B 3 1 v q.length (q.map (Value.int .i64)) :: L)) : ∃ T, QV v q T B ∧ Has w (T ++ L) := by
  have hrow := h.1
  rcases hrow.2 with ⟨rfl, h0⟩ | ⟨gq, cap, cur, rfl, hg, hh, hc, hm, hs, ht⟩
  · exact ⟨[], .inl ⟨List.eq_nil_of_length_eq_zero h0, rfl, rfl⟩, h.2.2⟩
  · refine ⟨[.blk gq (.cells cur 3 (0, 0))], .inr ⟨gq, 0, cap, cur, rfl, ⟨by omega, hc, fun i x hi => ?_⟩, rfl, hg⟩, ?_⟩
    · have h1 : (q.map (Value.int .i64))[i]? = some (.int .i64 x) := by rw [List.getElem?_map, hi]; rfl
      rw [← ht, List.getElem?_take] at h1
      split at h1
      · rw [Nat.zero_add]
        simpa using h1
      · cases h1
    · exact h.setAt (w1 := w) (r' := .blk gq (.cells cur 3 (0, 0))) 0 rfl hh (fun b hb => .inl (by rw [← hb]; rfl)) (fun _ _ _ => rfl)
theorem made_ints (n : Nat) : madeCells #[Value.int .i64 0] (n * 1) = ((List.replicate n (0 : Int)).map (Value.int .i64)).toArray := by
  apply Array.ext'
  simp [madeCells, List.map_replicate, Nat.mod_one]
  apply List.ext_getElem?
  intro i
  simp [List.getElem?_replicate, List.getElem?_map, List.getElem?_range]
  split <;> simp_all
theorem put_ints (sv : List Int) (i : Nat) : putAt (sv.map (Value.int .i64)).toArray (i * 1) [.int .i64 1] = ((sv.set i 1).map (Value.int .i64)).toArray := by
  apply Array.ext'
  simp [putAt, List.map_set]
theorem QV.slice {v : Value} {q : List Int} {T : List Res} {B : Nat} (h : QV v q T B) : ∃ A c, v = .slice A q.length c := by
  rcases h with ⟨rfl, rfl, _⟩ | ⟨bq, off, cap, cur, rfl, _⟩
  · exact ⟨none, 0, rfl⟩
  · exact ⟨_, _, rfl⟩
theorem need_split {g : List GNode} {ps : FP} {at_ : List Int} {l : List Fact} (hok : GraphOk g) (hq : ∀ q ∈ ps, InG g.length q ∧ mayX g false q = true) (hal : allF g ps = (at_, l)) {k : Nat} (hk : k ≤ ps.length) :
    ∃ la lb, allF g (ps.take k) = (la, lb) ∧ la.length = k ∧ at_.take k = la ∧ l.take lb.length = lb ∧ lb.length ≤ l.length := by
  have hA := allF_found hok (qs := ps.take k) (fun q h => hq q (List.mem_of_mem_take h))
  obtain ⟨la, lb, h2⟩ : ∃ a b, allF g (ps.take k) = (a, b) := ⟨_, _, rfl⟩
  rw [h2] at hA
  have hla : la.length = k := by have := hA.many; rw [List.length_take, Nat.min_eq_left hk] at this; exact this
  unfold allF at hal h2
  have hsp : findsF (findF g (g.length * g.length + 1)) (ps.take k ++ ps.drop k) [] = (at_, l) := by rw [List.take_append_drop]; exact hal
  rw [findsF_append, h2] at hsp
  have hB := (all_is (F := findF g (g.length * g.length + 1)) (N := 0) (ps.drop k) lb (fun q h l' _ hgl => one_is hok _ q l' hgl (hq q (List.mem_of_mem_drop h)).1 (hq q (List.mem_of_mem_drop h)).2 (by omega)) (Nat.zero_le _) hA.good).out
  obtain ⟨news, e, _⟩ := hB
  simp only [Prod.mk.injEq] at hsp
  obtain ⟨e1, e2⟩ := hsp
  have hl : l = lb ++ news := by rw [← e2]; exact e
  refine ⟨la, lb, h2, hla, ?_, ?_, by rw [hl, List.length_append]; omega⟩
  · rw [← e1, ← hla]
    exact List.take_left
  · rw [hl]
    exact List.take_left
theorem found_at {g : List GNode} {qs : FP} {a : List Int} {l : List Fact} (h : Found g qs a l) : ∀ x ∈ a, 0 ≤ x ∧ x < l.length := by
  intro x hx
  obtain ⟨k, hk⟩ := List.mem_iff_getElem?.1 hx
  have hl := (List.getElem?_eq_some_iff.1 hk).1
  have := h.pair_at (k := k) (by rw [← h.many]; exact hl)
  have e := iat_nat hl
  rw [hk] at e
  injection e with e
  rw [← e] at this
  exact ⟨this.1, this.2.1⟩
theorem pairs_take {w : World} {A : Option Addr} {c k : Nat} {ps : FP} (h : PairsAt w A c ps) : PairsAt w A c (ps.take k) := by
  have := h.take k
  unfold PairsAt
  rwa [show min ps.length k = (ps.take k).length by rw [List.length_take, Nat.min_comm]] at this
theorem facts_take {w : World} {A : Option Addr} {c : Nat} {l lb : List Fact} (h : FactsAt w A c l) (e : l.take lb.length = lb) (hl : lb.length ≤ l.length) : FactsAt w A c lb := by
  have := h.take lb.length
  rw [e, Nat.min_eq_right hl] at this
  exact this
theorem ints_take {w : World} {A : Option Addr} {c k : Nat} {l la : List Int} (h : Ints w A c l) (e : l.take k = la) (hla : la.length = k) (hk : k ≤ l.length) : Ints w A c la := by
  have := h.take k
  rw [e, Nat.min_eq_right hk, ← hla] at this
  exact this
set_option maxHeartbeats 20000000 in
theorem Needed_calls (w0 : World) (hk0 : KeysLaid w0) (A : Option Addr) (c : Nat) (g : List GNode) (hg : Nodes w0 A c g) (Ap : Option Addr) (cp : Nat) (ps0 : FP) (hp0 : PairsAt w0 Ap cp ps0) (many : Int) :
    Calls Tryd.prog 4 [.slice A g.length c, .slice Ap ps0.length cp, .int .i64 many].toArray w0 fun en w' => en = .returned (.bool true) ∧ Ext0 w0 w' := by
  have hE : Ext0 w0 w0 := Ext.refl _ _
  have hL : Has w0 [] := trivial
  refine calls [6] Tryd.func4 rfl rfl rfl rfl ?_
  refine c_seq ?_
  -- region 0
  refine c_ops ?_
  refine l_val rfl rfl rfl (r_assign rfl) ?_
  refine l_nil ?_
  refine c_seq ?_
  -- region 1
  refine c_ops ?_
  refine l_val rfl rfl rfl (r_move rfl) ?_
  refine l_by rfl rfl rfl (r_call rfl rfl Tryd.func8 rfl rfl) (fine_calls _ hk0 A c g hg) ?_   -- outright.go:112 slot 20 := (call {callee=(value (func 8)), args=[(tmp 19)], argTypes=[22]})
  rintro _ w ⟨A1, c1, hen, hn, hX⟩
  obtain ⟨gg, hgg⟩ : ∃ x, x = fineF g := ⟨_, rfl⟩
  have hlen := fineF_len g
  have hfit := fineF_fits g
  have hchk := @fineF_check g
  rw [← hgg] at hen hn hlen hfit hchk
  subst hen
  replace hE := hE.trans hX
  obtain ⟨wa, hwa⟩ : ∃ x, x = w := ⟨_, rfl⟩
  rw [← hwa] at hn hE
  have hE0 := hE
  replace hE : Ext0 wa w := hwa ▸ Ext.refl _ _
  refine ⟨_, rfl, ?_⟩
  refine l_val rfl rfl rfl (r_assign rfl) ?_
  refine l_nil ?_
  refine c_seq ?_
  refine c_seq ?_
  -- region 2
  refine c_ops ?_
  refine l_val rfl rfl rfl (r_move rfl) ?_
  refine l_val rfl rfl rfl (r_len rfl Tryd.underlying22 rfl) ?_
  refine l_val rfl rfl rfl (r_eql rfl rfl rfl) ?_
  refine l_nil ?_
  refine c_cond rfl (fun hb => ?_) (fun hb => ?_)
  · -- True
    have hr23 := hb
    replace hb := of_decide_eq_true hb
    refine c_seq ?_
    -- region 3
    refine c_ops ?_
    refine l_by rfl rfl rfl (r_call rfl rfl Tryd.func9 rfl rfl) (works_calls _ (hk0.keep (Ext0.cells (hE0.trans hE)))) ?_   -- outright.go:114 slot 24 := (call {callee=(value (func 9)), args=[], argTypes=[]})
    rintro _ w ⟨rfl, hX⟩
    replace hE := hE.trans hX
    refine ⟨_, rfl, ?_⟩
    refine l_val rfl rfl rfl (r_assign rfl) ?_
    refine l_nil ?_
    refine c_ret ?_
    exact ⟨rfl, hE0.trans hE⟩
  · -- False
    have hr23 := hb
    replace hb := of_decide_eq_false hb
    have hne : gg ≠ [] := fun h => hb (by rw [h]; rfl)
    have hck := hchk hne
    obtain ⟨hok, _⟩ := ok_of hfit hck
    have hgpos : 0 < gg.length := List.length_pos_iff.2 hne
    refine c_skip ?_
    refine c_seq ?_
    -- region 4
    refine c_ops ?_
    refine l_val rfl rfl rfl (r_move rfl) ?_
    refine l_val rfl rfl rfl (r_move rfl) ?_
    refine l_by rfl rfl rfl (r_call rfl rfl Tryd.func10 rfl rfl) (pairsOf_calls _ A1 gg.length c1 (by omega) hlen Ap cp ps0 (hp0.keep RPair.kept (Ext0.cells (hE0.trans hE)))) ?_   -- outright.go:116 slot 27 := (call {callee=(value (func 10)), args=[(tmp 25), (tmp 26)], argTypes=[22, 23]})
    rintro _ w ⟨ps, A2, c2, rfl, hps, hps8, hpin, hX⟩
    replace hE := hE.trans hX
    replace hn := hn.keep RNode.kept (Ext0.cells hE)
    obtain ⟨wb, hwb⟩ : ∃ x, x = w := ⟨_, rfl⟩
    rw [← hwb] at hn hps hE
    replace hE0 := hE0.trans hE
    replace hE : Ext0 wb w := hwb ▸ Ext.refl _ _
    refine ⟨_, rfl, ?_⟩
    refine l_val rfl rfl rfl (r_assign rfl) ?_
    refine l_nil ?_
    refine c_seq ?_
    -- region 5
    refine c_ops ?_
    refine l_val rfl rfl rfl (r_move rfl) ?_
    refine l_val rfl rfl rfl (r_move rfl) ?_
    refine l_val rfl rfl rfl (r_len rfl Tryd.underlying23 rfl) ?_
    refine l_val rfl rfl rfl (r_addv (v := ((ps.length : Int) + 1)) rfl rfl rfl (wrap_small (by omega) (by omega))) ?_
    refine l_by rfl rfl rfl (r_call rfl rfl Tryd.func14 rfl rfl) (Bring_calls _ many ((ps.length : Int) + 1) (by omega) (by omega)) ?_   -- outright.go:117 slot 32 := (call {callee=(value (func 14)), args=[(tmp 28), (tmp 31)], argTypes=[3, 3]})
    rintro _ w ⟨kb, rfl, hkb0, hkb1, hX⟩
    replace hE := hE.step0 hX
    obtain ⟨kn, rfl⟩ := Int.eq_ofNat_of_zero_le hkb0
    have hkn : kn ≤ ps.length := by omega
    refine ⟨_, rfl, ?_⟩
    refine l_val rfl rfl rfl (r_assign rfl) ?_
    refine l_nil ?_
    refine c_seq ?_
    -- region 6
    refine c_ops ?_
    refine l_val rfl rfl rfl (r_move rfl) ?_
    refine l_val rfl rfl rfl (r_move rfl) ?_
    refine l_by rfl rfl rfl (r_call rfl rfl Tryd.func12 rfl rfl) (Find_calls _ A1 c1 gg (hn.keep RNode.kept (Ext0.cells hE)) hfit hlen (hk0.keep (Ext0.cells (hE0.trans hE))) A2 c2 ps (hps.keep RPair.kept (Ext0.cells hE)) (by omega)) ?_   -- outright.go:118 slot 36 := (call {callee=(value (func 12)), args=[(tmp 34), (tmp 35)], argTypes=[22, 23]})
    rintro _ w ⟨A3, c3, A4, c4, rfl, hf3, hi4, hX⟩
    replace hE := hE.trans hX
    replace hn := hn.keep RNode.kept (Ext0.cells hE)
    replace hps := hps.keep RPair.kept (Ext0.cells hE)
    obtain ⟨wc, hwc⟩ : ∃ x, x = w := ⟨_, rfl⟩
    rw [← hwc] at hn hps hf3 hi4 hE
    replace hE0 := hE0.trans hE
    replace hE : Ext0 wc w := hwc ▸ Ext.refl _ _
    refine ⟨_, rfl, ?_⟩
    refine l_val rfl rfl rfl (r_move rfl) ?_
    refine l_val rfl rfl rfl (r_extract rfl rfl rfl) ?_
    refine l_val rfl rfl rfl (r_extract rfl rfl rfl) ?_
    refine l_val rfl rfl rfl (r_extract rfl rfl rfl) ?_
    refine l_val rfl rfl rfl (r_assign rfl) ?_
    refine l_val rfl rfl rfl (r_assign rfl) ?_
    refine l_val rfl rfl rfl (r_assign rfl) ?_
    refine l_nil ?_
    refine c_seq ?_
    refine c_seq ?_
    -- region 7
    refine c_ops ?_
    refine l_val rfl rfl rfl (r_move rfl) ?_
    refine l_val rfl rfl rfl (r_neq rfl rfl rfl) ?_
    refine l_nil ?_
    refine c_cond rfl (fun hb => ?_) (fun hb => ?_)
    · -- True
      have hr41 := hb
      replace hb := of_decide_eq_false (by simpa using hb)
      have hallin := all_in hpin
      have herr : findErr gg ps = 160 := (err_two hck hallin).elim (fun h => h.1) (fun h => absurd h.1 hb)
      refine c_know (t := 10) (v := .int .i64 160) (congrArg (Value.int .i64) herr) ?_
      refine c_seq ?_
      -- region 8
      refine c_ops ?_
      refine l_val rfl rfl rfl (r_move rfl) ?_
      refine l_val rfl rfl rfl (r_eql rfl rfl rfl) ?_
      refine l_know (t := 43) (v := .bool true) rfl ?_
      refine l_val rfl rfl rfl (r_move rfl) ?_
      refine l_by rfl rfl rfl (r_call rfl rfl Tryd.func9 rfl rfl) (works_calls _ (hk0.keep (Ext0.cells (hE0.trans hE)))) ?_   -- outright.go:120 slot 45 := (call {callee=(value (func 9)), args=[], argTypes=[]})
      rintro _ w ⟨rfl, hX⟩
      replace hE := hE.trans hX
      refine ⟨_, rfl, ?_⟩
      refine l_val rfl rfl rfl (r_pick rfl rfl) ?_
      refine l_know (t := 46) (v := .bool true) rfl ?_
      refine l_val rfl rfl rfl (r_assign rfl) ?_
      refine l_nil ?_
      refine c_ret ?_
      exact ⟨rfl, hE0.trans hE⟩
    · -- False
      have hr41 := hb
      replace hb := of_decide_eq_true (by simpa using hb)
      have hallin := all_in hpin
      have hall : ps.all (mayX gg false) = true := (err_two hck hallin).elim (fun h => by rw [h.1] at hb; cases hb) (fun h => h.2)
      clear hb hr41
      obtain ⟨herr, hfo⟩ := err_ok hck hallin hall
      have hqall : ∀ q ∈ ps, InG gg.length q ∧ mayX gg false q = true := fun q hq => ⟨hpin q hq, all_at hall hq⟩
      have hfd := allF_found hok hqall
      obtain ⟨at_, l, hal⟩ : ∃ a l, allF gg ps = (a, l) := ⟨_, _, rfl⟩
      rw [hal] at hfd hfo
      rw [hfo] at hf3 hi4
      replace hf3 : FactsAt wc A3 c3 l := hf3
      replace hi4 : Ints wc A4 c4 at_ := hi4
      replace hfd : Found gg ps at_ l := hfd
      refine c_know (t := 10) (v := .int .i64 0) (congrArg (Value.int .i64) herr) ?_
      refine c_know (t := 8) (v := .slice A3 l.length c3) (congrArg (fun (x : List Int × List Fact) => Value.slice A3 x.2.length c3) hfo) ?_
      refine c_know (t := 9) (v := .slice A4 at_.length c4) (congrArg (fun (x : List Int × List Fact) => Value.slice A4 x.1.length c4) hfo) ?_
      obtain ⟨hl256, hcl⟩ := found_check hfd hok hck hlen
      have hfst := found_first hfd hok
      obtain ⟨la, lb, hal2, hlal, hla, hlb, hlbl⟩ := need_split hok hqall hal hkn
      have hsub : ∀ q ∈ ps.take kn, q ∈ ps := fun q h => List.mem_of_mem_take h
      have herr2 : findErr gg (ps.take kn) = 0 := (err_ok hck (all_in (fun q h => hpin q (hsub q h))) (List.all_eq_true.2 (fun q h => all_at hall (hsub q h)))).1
      clear hfst herr hchk hcl
      have hsm : ∀ x ∈ gg, x.l.length ≤ 12 := by rw [hgg]; exact cutF_small g
      have hwy : ∀ f ∈ l, f.why.length ≤ 13 := fun f hf => why_small hok hsm (hfd.holds hok hf).1
      have hin1 : ∀ k : Int, 0 ≤ k → k < l.length → ∀ j ∈ onF gg (fat l k), 0 ≤ j ∧ j < l.length := fun k h0 h1 => (formed_ok (hfd.holds hok (fat_mem h0 h1)).1).2
      have hat1 := found_at hfd
      refine c_skip ?_
      refine c_fresh (fun e => e 0 = .slice A1 gg.length c1 ∧ e 1 = .slice A2 ps.length c2 ∧ e 7 = .int .i64 (kn : Int) ∧ e 8 = .slice A3 l.length c3 ∧ e 9 = .slice A4 at_.length c4) ⟨rfl, rfl, rfl, rfl, rfl⟩ ?_
      rintro e ⟨hq0, hq1, hq7, hq8, hq9⟩
      refine c_know (t := 0) (by exact hq0) ?_
      refine c_know (t := 1) (by exact hq1) ?_
      refine c_know (t := 7) (by exact hq7) ?_
      refine c_know (t := 8) (by exact hq8) ?_
      refine c_know (t := 9) (by exact hq9) ?_
      clear hq0 hq1 hq7 hq8 hq9
      refine c_seq ?_
      -- region 9
      refine c_ops ?_
      refine l_val rfl rfl rfl (r_move rfl) ?_
      refine l_val rfl rfl rfl (r_move rfl) ?_
      refine l_val rfl rfl rfl (r_move rfl) ?_
      refine l_val rfl rfl rfl (r_slice_to rfl Tryd.underlying23 Tryd.sizeOf28 rfl rfl (by omega) (by have := hps.cap; omega)) ?_
      refine l_know (t := 51) (v := .slice A2 (ps.take kn).length c2) (congrArg (fun n => Value.slice A2 n c2) (show (kn : Int).toNat = (ps.take kn).length by rw [List.length_take, Nat.min_eq_left hkn, Int.toNat_natCast])) ?_
      refine l_by rfl rfl rfl (r_call rfl rfl Tryd.func12 rfl rfl) (Find_calls _ A1 c1 gg (hn.keep RNode.kept (Ext0.cells hE)) hfit hlen (hk0.keep (Ext0.cells (hE0.trans hE))) A2 c2 (ps.take kn) (pairs_take (hps.keep RPair.kept (Ext0.cells hE))) (by rw [List.length_take]; omega)) ?_   -- outright.go:122 slot 52 := (call {callee=(value (func 12)), args=[(tmp 48), (tmp 51)], argTypes=[22, 23]})
      rintro _ w hF
      obtain ⟨A5, c5, A6, c6, rfl, hf5, hi6, hX⟩ := hF.known herr2 hal2
      replace hE := hE.trans hX
      replace hn := hn.keep RNode.kept (Ext0.cells hE)
      replace hf3 := hf3.keep RFact.kept (Ext0.cells hE)
      replace hi4 := hi4.keep RInt.kept (Ext0.cells hE)
      obtain ⟨wd, hwd⟩ : ∃ x, x = w := ⟨_, rfl⟩
      rw [← hwd] at hn hf3 hi4 hf5 hi6 hE
      replace hE0 := hE0.trans hE
      replace hE : Ext0 wd w := hwd ▸ Ext.refl _ _
      have hf3k := facts_take hf3 hlb hlbl
      have hi4k := ints_take hi4 hla hlal (by rw [hfd.many]; exact hkn)
      refine ⟨_, rfl, ?_⟩
      refine l_val rfl rfl rfl (r_move rfl) ?_
      refine l_val rfl rfl rfl (r_extract rfl rfl rfl) ?_
      refine l_val rfl rfl rfl (r_extract rfl rfl rfl) ?_
      refine l_val rfl rfl rfl (r_extract rfl rfl rfl) ?_
      refine l_val rfl rfl rfl (r_assign rfl) ?_
      refine l_val rfl rfl rfl (r_assign rfl) ?_
      refine l_val rfl rfl rfl (r_assign rfl) ?_
      refine l_nil ?_
      refine c_seq ?_
      refine c_seq ?_
      -- region 10
      refine c_ops ?_
      refine l_val rfl rfl rfl (r_move rfl) ?_
      refine l_val rfl rfl rfl (r_neq rfl rfl rfl) ?_
      refine l_know (t := 57) (v := .bool false) rfl ?_
      refine l_val rfl rfl rfl (r_move rfl) ?_
      refine l_val rfl rfl rfl (r_move rfl) ?_
      refine l_val rfl rfl rfl (r_len rfl Tryd.underlying29 rfl) ?_
      refine l_val rfl rfl rfl (r_move rfl) ?_
      refine l_val rfl rfl rfl (r_len rfl Tryd.underlying29 rfl) ?_
      refine l_val rfl rfl rfl (r_gtr rfl rfl rfl) ?_
      refine l_know (t := 63) (v := .bool false) (congrArg Value.bool (decide_eq_false (by omega))) ?_
      refine l_val rfl rfl rfl (r_pick rfl rfl) ?_
      refine l_know (t := 64) (v := .bool false) rfl ?_
      refine l_val rfl rfl rfl (r_move rfl) ?_
      refine l_val rfl rfl rfl (r_move rfl) ?_
      refine l_val rfl rfl rfl (r_len rfl Tryd.underlying30 rfl) ?_
      refine l_val rfl rfl rfl (r_move rfl) ?_
      refine l_val rfl rfl rfl (r_len rfl Tryd.underlying23 rfl) ?_
      refine l_val rfl rfl rfl (r_neq rfl rfl rfl) ?_
      refine l_know (t := 70) (v := .bool false) (congrArg Value.bool (by rw [hfd.many]; simp)) ?_
      refine l_val rfl rfl rfl (r_pick rfl rfl) ?_
      refine l_know (t := 71) (v := .bool false) rfl ?_
      refine l_val rfl rfl rfl (r_move rfl) ?_
      refine l_val rfl rfl rfl (r_move rfl) ?_
      refine l_val rfl rfl rfl (r_len rfl Tryd.underlying30 rfl) ?_
      refine l_val rfl rfl rfl (r_move rfl) ?_
      refine l_val rfl rfl rfl (r_neq rfl rfl rfl) ?_
      refine l_know (t := 76) (v := .bool false) (congrArg Value.bool (by rw [hlal]; simp)) ?_
      refine l_val rfl rfl rfl (r_pick rfl rfl) ?_
      refine l_know (t := 77) (v := .bool false) rfl ?_
      refine l_val rfl rfl rfl (r_move rfl) ?_
      refine l_val rfl rfl rfl (r_move rfl) ?_
      refine l_val rfl rfl rfl (r_move rfl) ?_
      refine l_val rfl rfl rfl (r_len rfl Tryd.underlying29 rfl) ?_
      refine l_val rfl rfl rfl (r_slice_to rfl Tryd.underlying29 Tryd.sizeOf37 rfl rfl (by omega) (by have := hf3.cap; omega)) ?_
      refine l_know (t := 82) (v := .slice A3 lb.length c3) rfl ?_
      refine l_val rfl rfl rfl (r_move rfl) ?_
      refine l_by rfl rfl rfl (r_call rfl rfl Tryd.func15 rfl rfl) (Same_true _ A3 c3 lb (hf3k.keep RFact.kept (Ext0.cells hE)) A5 c5 (hf5.keep RFact.kept (Ext0.cells hE))) ?_   -- outright.go:123 slot 84 := (call {callee=(value (func 15)), args=[(tmp 82), (tmp 83)], argTypes=[29, 29]})
      rintro _ w ⟨rfl, hX⟩
      replace hE := hE.trans hX
      refine ⟨_, rfl, ?_⟩
      refine l_val rfl rfl rfl (r_not rfl rfl) ?_
      refine l_know (t := 85) (v := .bool false) rfl ?_
      refine l_val rfl rfl rfl (r_pick rfl rfl) ?_
      refine l_know (t := 86) (v := .bool false) rfl ?_
      refine l_val rfl rfl rfl (r_move rfl) ?_
      refine l_val rfl rfl rfl (r_move rfl) ?_
      refine l_val rfl rfl rfl (r_move rfl) ?_
      refine l_val rfl rfl rfl (r_slice_to rfl Tryd.underlying30 Tryd.sizeOf3 rfl rfl (by omega) (by have := hi4.cap; rw [hfd.many] at this; omega)) ?_
      refine l_know (t := 90) (v := .slice A4 la.length c4) (congrArg (fun n => Value.slice A4 n c4) (show (kn : Int).toNat = la.length by rw [hlal, Int.toNat_natCast])) ?_
      refine l_val rfl rfl rfl (r_move rfl) ?_
      refine l_by rfl rfl rfl (r_call rfl rfl Tryd.func16 rfl rfl) (EqInts_true _ A4 c4 la (hi4k.keep RInt.kept (Ext0.cells hE)) A6 c6 (hi6.keep RInt.kept (Ext0.cells hE))) ?_   -- outright.go:123 slot 92 := (call {callee=(value (func 16)), args=[(tmp 90), (tmp 91)], argTypes=[30, 30]})
      rintro _ w ⟨rfl, hX⟩
      replace hE := hE.trans hX
      refine ⟨_, rfl, ?_⟩
      refine l_val rfl rfl rfl (r_not rfl rfl) ?_
      refine l_know (t := 93) (v := .bool false) rfl ?_
      refine l_val rfl rfl rfl (r_pick rfl rfl) ?_
      refine l_know (t := 94) (v := .bool false) rfl ?_
      refine l_nil ?_
      refine c_no rfl ?_
      refine c_skip ?_
      refine c_fresh (fun e => e 0 = .slice A1 gg.length c1 ∧ e 8 = .slice A3 l.length c3 ∧ e 9 = .slice A4 at_.length c4) ⟨rfl, rfl, rfl⟩ ?_
      rintro e ⟨hq0, hq8, hq9⟩
      refine c_know (t := 0) (by exact hq0) ?_
      refine c_know (t := 8) (by exact hq8) ?_
      refine c_know (t := 9) (by exact hq9) ?_
      clear hq0 hq8 hq9
      refine c_seq ?_
      -- region 12
      refine c_ops ?_
      replace hL : Has w [] := trivial
      refine l_val rfl rfl rfl (r_move rfl) ?_
      refine l_val rfl rfl rfl (r_len rfl Tryd.underlying29 rfl) ?_
      refine l_new rfl rfl rfl (n_make rfl Tryd.underlying30 info_int rfl rfl hL hE (by omega) (by omega)) ?_
      rintro _ w ⟨s97, rfl, hs97, hL, hE, hX⟩
      replace hL : Has w [.blk s97 (.cells ((List.replicate l.length (0 : Int)).map (Value.int .i64)).toArray 3 (0, 0))] := by rw [← made_ints]; exact hL
      refine l_val rfl rfl rfl (r_assign rfl) ?_
      refine l_nil ?_
      refine c_seq ?_
      -- region 13
      refine c_ops ?_
      refine l_val rfl rfl rfl (r_move rfl) ?_
      refine l_by rfl rfl rfl (r_call rfl rfl Tryd.func17 rfl rfl) (CopyInts_calls _ A4 at_.length c4 at_ (hi4.keep RInt.kept (Ext0.cells hE)) (by rw [hfd.many]; omega)) ?_   -- outright.go:127 slot 99 := (call {callee=(value (func 17)), args=[(tmp 98)], argTypes=[30]})
      rintro _ w ⟨v15, rfl, hrow, hX⟩
      have hL9 := hL.cons hX (r := .row wd.heap.size 3 1 v15 at_.length (at_.map (Value.int .i64))) (ownsRow_base hrow hE.size) (fun b hb => (ownsRow_lt hrow hb).2)
      replace hE := hE.step0 hX
      obtain ⟨T0, hqv0, hL8⟩ := QV.of_row (B := wd.heap.size) hL9
      replace hL : Has w (.blk s97 (.cells ((List.replicate l.length (0 : Int)).map (Value.int .i64)).toArray 3 (0, 0)) :: T0) := Has.perm (List.perm_append_comm (l₂ := [_])) hL8
      refine ⟨_, rfl, ?_⟩
      refine l_val rfl rfl rfl (r_assign rfl) ?_
      refine l_nil ?_
      refine c_seq ?_
      refine c_block ?_
      -- loop 0: slots that it writes and that are read in it ahead of that: [15]
      refine c_loop0 (fun m1 e w => (e 0 = .slice A1 gg.length c1 ∧ e 8 = .slice A3 l.length c3 ∧ e 14 = .slice (some ⟨s97, 0, none⟩) l.length l.length) ∧ (∃ (sv q : List Int) (v : Value) (T : List Res), m1 = 14 * zeros sv + q.length ∧ m1 ≤ 4000 ∧ e 15 = v ∧ QV v q T wd.heap.size ∧ SeenIs gg l at_ sv q none ∧ Has w (.blk s97 (.cells ((sv).map (Value.int .i64)).toArray 3 (0, 0)) :: T) ∧ Ext0 wd w)) (14 * zeros (List.replicate l.length (0 : Int)) + at_.length) ?_ ?_
      · exact ⟨⟨rfl, rfl, rfl⟩, List.replicate l.length 0, at_, v15, T0, rfl, by have := zeros_le (List.replicate l.length (0 : Int)); rw [List.length_replicate] at this; rw [hfd.many]; omega, rfl, hqv0, SeenIs.begin l.length rfl hat1, hL, hE⟩
      rintro m1 e w ⟨⟨hq0, hq8, hq14⟩, hI⟩
      refine c_know (t := 0) (by exact hq0) ?_
      refine c_know (t := 8) (by exact hq8) ?_
      refine c_know (t := 14) (by exact hq14) ?_
      clear hq0 hq8 hq14
      obtain ⟨sv, q, v, T, hm, hm4, h15, hqv, hS, hL, hE⟩ := hI
      obtain ⟨A15, c15, hv15⟩ := hqv.slice
      subst hv15
      refine c_know (t := 15) (by exact h15) ?_
      refine c_seq ?_
      refine c_seq ?_
      -- region 14
      refine c_ops ?_
      refine l_val rfl rfl rfl (r_move rfl) ?_
      refine l_val rfl rfl rfl (r_len rfl Tryd.underlying30 rfl) ?_
      refine l_val rfl rfl rfl (r_gtr rfl rfl rfl) ?_
      refine l_nil ?_
      refine c_cond rfl (fun hb => ?_) (fun hb => ?_)
      · -- True
        have hr102 := hb
        replace hb := of_decide_eq_true hb
        obtain ⟨i0, q', rfl⟩ : ∃ i0 q', q = i0 :: q' := by
          cases q with
          | nil => simp at hb
          | cons a r => exact ⟨a, r, rfl⟩
        obtain ⟨bq, off, cap, cur, hv, hq, hT, hbq⟩ := hqv.resolve_left (fun h => by cases h.1)
        injection hv with e1 _ e3
        subst e1
        subst e3
        subst hT
        have hi0 := hS.inn i0 List.mem_cons_self
        obtain ⟨jn, rfl⟩ := Int.eq_ofNat_of_zero_le hi0.1
        have hlen0 : ((jn : Int) :: q').length = q'.length + 1 := rfl
        have hqm : ((jn : Int) :: q').length ≤ 9223372036854775807 := by omega
        have hsl := hS.len
        refine c_skip ?_
        refine c_block ?_
        refine c_seq ?_
        -- region 15
        refine c_ops ?_
        refine l_val rfl rfl rfl (r_move rfl) ?_
        refine l_val rfl rfl rfl (r_indexAddr_sl rfl Tryd.underlying30 Tryd.sizeOf3 rfl (fun _ => rfl) rfl (by decide) (by simp)) ?_
        refine l_val rfl rfl rfl (r_load (v := .int .i64 (jn : Int)) rfl Tryd.isAgg3 rfl ((hq.sl (hL.get 1 rfl) hqm).int 0 (by decide) (by simp))) ?_
        refine l_val rfl rfl rfl (r_assign rfl) ?_
        refine l_nil ?_
        refine c_seq ?_
        -- region 16
        refine c_ops ?_
        refine l_val rfl rfl rfl (r_move rfl) ?_
        refine l_new rfl rfl rfl (n_pop rfl Tryd.underlying30 Tryd.sizeOf3 rfl rfl hq) ?_
        rintro _ w ⟨off2, rfl, hq2, rfl⟩
        refine l_val rfl rfl rfl (r_assign rfl) ?_
        refine l_nil ?_
        refine c_seq ?_
        refine c_seq ?_
        -- region 17
        refine c_ops ?_
        refine l_val rfl rfl rfl (r_move rfl) ?_
        refine l_val rfl rfl rfl (r_lss rfl rfl rfl) ?_
        refine l_val rfl rfl rfl (r_move rfl) ?_
        refine l_case 110 rfl (fun hb => ?_) (fun hb => ?_)
        · -- slot 110 is True
          have hr110 := hb
          replace hb := of_decide_eq_true hb
          omega
        · -- slot 110 is False
          have hr110 := hb
          replace hb := of_decide_eq_false hb
          refine l_val rfl rfl rfl (r_move rfl) ?_
          refine l_val rfl rfl rfl (r_move rfl) ?_
          refine l_val rfl rfl rfl (r_len rfl Tryd.underlying29 rfl) ?_
          refine l_val rfl rfl rfl (r_geq rfl rfl rfl) ?_
          refine l_val rfl rfl rfl (r_pick rfl rfl) ?_
          refine l_nil ?_
          refine c_cond rfl (fun hb => ?_) (fun hb => ?_)
          · -- True
            have hr115 := hb
            replace hb := of_decide_eq_true hb
            omega
          · -- False
            have hr115 := hb
            replace hb := of_decide_eq_false hb
            refine c_skip ?_
            refine c_seq ?_
            refine c_seq ?_
            -- region 19
            refine c_ops ?_
            refine l_val rfl rfl rfl (r_move rfl) ?_
            refine l_val rfl rfl rfl (r_move rfl) ?_
            refine l_val rfl rfl rfl (r_indexAddr_sl rfl Tryd.underlying30 Tryd.sizeOf3 rfl (fun _ => rfl) rfl (by omega) (by omega)) ?_
            refine l_val rfl rfl rfl (r_load (v := .int .i64 (iat sv (jn : Int))) rfl Tryd.isAgg3 rfl ((lit_ints (l := sv) (n := l.length) (hL.get 0 rfl) (by simp) hS.len (by omega)).int (jn : Int) (by omega) (by omega))) ?_
            refine l_val rfl rfl rfl (r_eql rfl rfl rfl) ?_
            refine l_nil ?_
            refine c_cond rfl (fun hb => ?_) (fun hb => ?_)
            · -- True
              have hr120 := hb
              replace hb := of_decide_eq_true hb
              refine c_exit ?_
              first
                | exact ⟨14 * zeros sv + q'.length, by omega, ⟨rfl, rfl, rfl⟩, sv, q', _, _, rfl, by omega, rfl, .inr ⟨bq, off2, c15 - 1, cur, rfl, hq2, rfl, hbq⟩, hS.skip hb, hL, hE⟩
                | exact ⟨14 * zeros (sv.set jn 1) + q2.length, by omega, ⟨rfl, rfl, rfl⟩, sv.set jn 1, q2, _, _, rfl, by omega, rfl, .inr ⟨bq, off, cap, cur, rfl, hq, rfl, hbq⟩, hSf, hL, hE⟩
            · -- False
              have hr120 := hb
              replace hb := of_decide_eq_false hb
              have hz0 := zeros_set sv jn (by omega) hb
              have hS3 := hS.mark (fun k h0 h1 j hj => (hin1 k h0 h1 j hj).1) (fun a ha => (hat1 a ha).1)
              obtain ⟨Aw, cw, hfc, hfw⟩ := hf3.fact (jn : Int) (by omega) (by omega)
              have hkm := fat_mem (l := l) (k := (jn : Int)) (by omega) (by omega)
              have hw13 := hwy _ hkm
              have hfo := (formed_ok (hfd.holds hok hkm).1).1
              have hka0 := hfo.a.1
              have hka1 := hfo.a.2
              obtain ⟨Bk, dk, Bl, dl, hna, _, _⟩ := hn.node (fat l (jn : Int)).a hka0 hka1
              refine c_skip ?_
              refine c_seq ?_
              -- region 20
              refine c_ops ?_
              refine l_val rfl rfl rfl (r_move rfl) ?_
              refine l_val rfl rfl rfl (r_move rfl) ?_
              refine l_val rfl rfl rfl (r_indexAddr_row (i := jn) rfl Tryd.underlying30 Tryd.sizeOf3 rfl rfl (by omega)) ?_
              refine l_new_do rfl rfl (r_store (off := jn * 1) (n := 1) 0 rfl Tryd.sizeOf3 rfl hL hE rfl rfl rfl (Nat.ble_eq_true_of_le (by simp; omega)) (fun h => absurd h (Nat.not_lt.2 hs97))) ?_   -- outright.go:137 slot None := (store 3 (tmp 123) (const (int IntKind.i64 1)))
              rintro w ⟨hL, hE, hz, hk⟩
              refine l_nil ?_
              refine c_seq ?_
              -- region 21
              refine c_ops ?_
              first | (replace hL : Has w [.blk s97 (.cells ((sv.set jn 1).map (Value.int .i64)).toArray 3 (0, 0)), .blk bq (.cells cur 3 (0, 0))] := by rw [← put_ints]; exact hL) | skip
              refine l_val rfl rfl rfl (r_assign rfl) ?_
              refine l_nil ?_
              refine c_block ?_
              -- loop 1: slots that it writes and that are read in it ahead of that: [17, 15]
              refine c_loop0 (fun m1 e w => (e 0 = .slice A1 gg.length c1 ∧ e 8 = .slice A3 l.length c3 ∧ e 14 = .slice (some ⟨s97, 0, none⟩) l.length l.length ∧ e 16 = .int .i64 (jn : Int)) ∧ (∃ (n : Nat) (q2 : List Int) (bq off cap : Nat) (cur : Array Value), n ≤ (fat l (jn : Int)).why.length ∧ m1 = (fat l (jn : Int)).why.length - n ∧ e 17 = .int .i64 n ∧ e 15 = .slice (some ⟨bq, off, none⟩) q2.length cap ∧ QAt cur off cap q2 ∧ SeenIs gg l at_ (sv.set jn 1) q2 (some ((jn : Int), n)) ∧ q2.length ≤ q'.length + n ∧ wd.heap.size ≤ bq ∧ Has w [.blk s97 (.cells ((sv.set jn 1).map (Value.int .i64)).toArray 3 (0, 0)), .blk bq (.cells cur 3 (0, 0))] ∧ Ext0 wd w)) (fat l (jn : Int)).why.length ?_ ?_
              · exact ⟨⟨rfl, rfl, rfl, rfl⟩, 0, q', bq, off2, c15 - 1, cur, Nat.zero_le _, rfl, rfl, rfl, hq2, hS3, Nat.le_refl _, hbq, hL, hE⟩
              rintro m1 e w ⟨⟨hq0, hq8, hq14, hq16⟩, hI⟩
              refine c_know (t := 0) (by exact hq0) ?_
              refine c_know (t := 8) (by exact hq8) ?_
              refine c_know (t := 14) (by exact hq14) ?_
              refine c_know (t := 16) (by exact hq16) ?_
              clear hq0 hq8 hq14 hq16
              obtain ⟨n, q2, bq, off, cap, cur, hnl, hmn, h17, h15, hq, hS, hql, hbq, hL, hE⟩ := hI
              refine c_know (t := 17) (by exact h17) ?_
              refine c_know (t := 15) (by exact h15) ?_
              have hwm := hfw.max
              refine c_seq ?_
              refine c_seq ?_
              -- region 22
              refine c_ops ?_
              refine l_val rfl rfl rfl (r_move rfl) ?_
              refine l_val rfl rfl rfl (r_move rfl) ?_
              refine l_val rfl rfl rfl (r_move rfl) ?_
              refine l_val rfl rfl rfl (r_indexAddr_sl rfl Tryd.underlying29 Tryd.sizeOf37 rfl hf3.is rfl (by omega) (by omega)) ?_
              refine l_val rfl rfl rfl (r_fieldAddr (n := 0) rfl Tryd.underlying37 rfl Tryd.sizeOf30 rfl) ?_
              refine l_val rfl rfl rfl (r_load rfl Tryd.isAgg30 rfl (Ext0.cells hE _ _ (hfc 2 _ rfl))) ?_
              refine l_val rfl rfl rfl (r_len rfl Tryd.underlying30 rfl) ?_
              refine l_val rfl rfl rfl (r_lss rfl rfl rfl) ?_
              refine l_nil ?_
              refine c_cond rfl (fun hb => ?_) (fun hb => ?_)
              · -- True
                have hr131 := hb
                replace hb := of_decide_eq_true hb
                have hnlt : n < (fat l (jn : Int)).why.length := by omega
                refine c_skip ?_
                refine c_seq ?_
                refine c_block ?_
                refine c_seq ?_
                -- region 24
                refine c_ops ?_
                refine l_val rfl rfl rfl (r_move rfl) ?_
                refine l_val rfl rfl rfl (r_gtr rfl rfl rfl) ?_
                refine l_val rfl rfl rfl (r_move rfl) ?_
                refine l_case 136 rfl (fun hb => ?_) (fun hb => ?_)
                · -- slot 136 is True
                  have hr136 := hb
                  replace hb := of_decide_eq_true hb
                  have hor : 0 < n ∨ (gat gg (fat l (jn : Int)).a).kind = 8 := .inl (by omega)
                  refine l_not rfl rfl rfl ?_
                  refine l_not rfl rfl rfl ?_
                  refine l_not rfl rfl rfl ?_
                  refine l_not rfl rfl rfl ?_
                  refine l_not rfl rfl rfl ?_
                  refine l_not rfl rfl rfl ?_
                  refine l_not rfl rfl rfl ?_
                  refine l_not rfl rfl rfl ?_
                  refine l_not rfl rfl rfl ?_
                  refine l_not rfl rfl rfl ?_
                  refine l_not rfl rfl rfl ?_
                  refine l_not rfl rfl rfl ?_
                  refine l_not rfl rfl rfl ?_
                  refine l_not rfl rfl rfl ?_
                  refine l_not rfl rfl rfl ?_
                  refine l_not rfl rfl rfl ?_
                  refine l_not rfl rfl rfl ?_
                  refine l_not rfl rfl rfl ?_
                  refine l_not rfl rfl rfl ?_
                  refine l_not rfl rfl rfl ?_
                  refine l_not rfl rfl rfl ?_
                  refine l_not rfl rfl rfl ?_
                  refine l_not rfl rfl rfl ?_
                  refine l_not rfl rfl rfl ?_
                  refine l_not rfl rfl rfl ?_
                  refine l_not rfl rfl rfl ?_
                  refine l_not rfl rfl rfl ?_
                  refine l_not rfl rfl rfl ?_
                  refine l_val rfl rfl rfl (r_pick rfl rfl) ?_
                  refine l_nil ?_
                  refine c_yes rfl ?_
                  -- region 25
                  refine c_ops ?_
                  refine l_val rfl rfl rfl (r_move rfl) ?_
                  refine l_val rfl rfl rfl (r_move rfl) ?_
                  refine l_val rfl rfl rfl (r_move rfl) ?_
                  refine l_val rfl rfl rfl (r_indexAddr_sl rfl Tryd.underlying29 Tryd.sizeOf37 rfl hf3.is rfl (by omega) (by omega)) ?_
                  refine l_val rfl rfl rfl (r_fieldAddr (n := 0) rfl Tryd.underlying37 rfl Tryd.sizeOf30 rfl) ?_
                  refine l_val rfl rfl rfl (r_load rfl Tryd.isAgg30 rfl (Ext0.cells hE _ _ (hfc 2 _ rfl))) ?_
                  refine l_val rfl rfl rfl (r_move rfl) ?_
                  refine l_val rfl rfl rfl (r_indexAddr_sl rfl Tryd.underlying30 Tryd.sizeOf3 rfl hfw.is rfl (by omega) (by omega)) ?_
                  refine l_val rfl rfl rfl (r_load (v := .int .i64 (iat (fat l (jn : Int)).why n)) rfl Tryd.isAgg3 rfl ((hfw.keep RInt.kept (Ext0.cells hE)).int n (by omega) (by omega))) ?_
                  refine l_new rfl rfl rfl (n_slice rfl Tryd.underlying30 Tryd.sizeOf3 Tryd.zeroValue3 rfl rfl (fill_int1 _) hL hE) ?_
                  rintro _ w ⟨s175, rfl, hs175, hL, hE, hX⟩
                  have hxin := hin1 (jn : Int) (by omega) (by omega) _ (mem_on hnlt hor)
                  refine l_new rfl rfl rfl (n_push (v := iat (fat l (jn : Int)).why n) 2 rfl Tryd.underlying30 info_int rfl rfl hL hE rfl hq (by rw [blk_cell (hL.get 0 rfl)]; rfl) (fun h => absurd h (Nat.not_lt.2 hbq)) (by omega)) ?_
                  rintro _ w ⟨bq2, off2, cap2, cur2, rfl, hq2, hL, hE, hS2⟩
                  have hSn := hS.push (x := iat (fat l (jn : Int)).why n) rfl hxin
                  refine l_val rfl rfl rfl (r_assign rfl) ?_
                  refine l_nil ?_
                  -- region 23
                  refine c_ops ?_
                  refine l_val rfl rfl rfl (r_move rfl) ?_
                  refine l_val rfl rfl rfl (r_add rfl rfl rfl) ?_
                  first | (replace hL : Has w [.blk s97 (.cells ((sv.set jn 1).map (Value.int .i64)).toArray 3 (0, 0)), .blk bq (.cells cur 3 (0, 0))] := by rw [← put_ints]; exact hL) | skip
                  refine l_val rfl rfl rfl (r_assign rfl) ?_
                  refine l_nil ?_
                  first
                    | exact ⟨(fat l (jn : Int)).why.length - (n + 1), by omega, ⟨rfl, rfl, rfl, rfl⟩, n + 1, q2 ++ [iat (fat l (jn : Int)).why n], bq2, off2, cap2, cur2, by omega, rfl, by show Value.int .i64 (IntKind.i64.wrap ((n : Int) + 1)) = _; rw [wrap_succ hnlt hwm], congrArg (fun n => Value.slice (some ⟨bq2, off2, none⟩) n cap2) (by simp), hq2, hSn, by simp; omega, Nat.le_of_not_lt hS2, hL.tail, hE⟩
                    | exact ⟨(fat l (jn : Int)).why.length - (n + 1), by omega, ⟨rfl, rfl, rfl, rfl⟩, n + 1, q2, bq, off, cap, cur, by omega, rfl, by show Value.int .i64 (IntKind.i64.wrap ((n : Int) + 1)) = _; rw [wrap_succ hnlt hwm], rfl, hq, hS.pass hno, by omega, hbq, hL, hE⟩
                · -- slot 136 is False
                  have hr136 := hb
                  replace hb := of_decide_eq_false hb
                  refine l_val rfl rfl rfl (r_move rfl) ?_
                  refine l_val rfl rfl rfl (r_move rfl) ?_
                  refine l_val rfl rfl rfl (r_indexAddr_sl rfl Tryd.underlying29 Tryd.sizeOf37 rfl hf3.is rfl (by omega) (by omega)) ?_
                  refine l_val rfl rfl rfl (r_fieldAddr (n := 0) rfl Tryd.underlying37 rfl Tryd.sizeOf3 rfl) ?_
                  refine l_val rfl rfl rfl (r_load rfl Tryd.isAgg3 rfl (Ext0.cells hE _ _ (hfc 0 _ rfl))) ?_
                  refine l_val rfl rfl rfl (r_geq rfl rfl rfl) ?_
                  refine l_val rfl rfl rfl (r_move rfl) ?_
                  refine l_case 143 rfl (fun hb => ?_) (fun hb => ?_)
                  · -- slot 143 is True
                    have hr143 := hb
                    replace hb := of_decide_eq_true hb
                    refine l_val rfl rfl rfl (r_move rfl) ?_
                    refine l_val rfl rfl rfl (r_move rfl) ?_
                    refine l_val rfl rfl rfl (r_indexAddr_sl rfl Tryd.underlying29 Tryd.sizeOf37 rfl hf3.is rfl (by omega) (by omega)) ?_
                    refine l_val rfl rfl rfl (r_fieldAddr (n := 0) rfl Tryd.underlying37 rfl Tryd.sizeOf3 rfl) ?_
                    refine l_val rfl rfl rfl (r_load rfl Tryd.isAgg3 rfl (Ext0.cells hE _ _ (hfc 0 _ rfl))) ?_
                    refine l_val rfl rfl rfl (r_move rfl) ?_
                    refine l_val rfl rfl rfl (r_len rfl Tryd.underlying22 rfl) ?_
                    refine l_val rfl rfl rfl (r_lss rfl rfl rfl) ?_
                    refine l_val rfl rfl rfl (r_pick rfl rfl) ?_
                    refine l_val rfl rfl rfl (r_move rfl) ?_
                    refine l_case 153 rfl (fun hb => ?_) (fun hb => ?_)
                    · -- slot 153 is True
                      have hr153 := hb
                      replace hb := of_decide_eq_true hb
                      refine l_val rfl rfl rfl (r_move rfl) ?_
                      refine l_val rfl rfl rfl (r_move rfl) ?_
                      refine l_val rfl rfl rfl (r_move rfl) ?_
                      refine l_val rfl rfl rfl (r_indexAddr_sl rfl Tryd.underlying29 Tryd.sizeOf37 rfl hf3.is rfl (by omega) (by omega)) ?_
                      refine l_val rfl rfl rfl (r_fieldAddr (n := 0) rfl Tryd.underlying37 rfl Tryd.sizeOf3 rfl) ?_
                      refine l_val rfl rfl rfl (r_load rfl Tryd.isAgg3 rfl (Ext0.cells hE _ _ (hfc 0 _ rfl))) ?_
                      refine l_val rfl rfl rfl (r_indexAddr_sl rfl Tryd.underlying22 Tryd.sizeOf45 rfl hn.is rfl hka0 hka1) ?_
                      refine l_val rfl rfl rfl (r_fieldAddr (n := 0) rfl Tryd.underlying45 rfl Tryd.sizeOf3 rfl) ?_
                      refine l_val rfl rfl rfl (r_load rfl Tryd.isAgg3 rfl (Ext0.cells hE _ _ (hna 0 _ rfl))) ?_
                      refine l_val rfl rfl rfl (r_eql rfl rfl rfl) ?_
                      refine l_val rfl rfl rfl (r_pick rfl rfl) ?_
                      refine l_val rfl rfl rfl (r_pick rfl rfl) ?_
                      refine l_nil ?_
                      refine c_cond rfl (fun hb => ?_) (fun hb => ?_)
                      · -- True
                        have hr165 := hb
                        replace hb := of_decide_eq_true hb
                        have hor : 0 < n ∨ (gat gg (fat l (jn : Int)).a).kind = 8 := .inr hb
                        -- region 25
                        refine c_ops ?_
                        refine l_val rfl rfl rfl (r_move rfl) ?_
                        refine l_val rfl rfl rfl (r_move rfl) ?_
                        refine l_val rfl rfl rfl (r_move rfl) ?_
                        refine l_val rfl rfl rfl (r_indexAddr_sl rfl Tryd.underlying29 Tryd.sizeOf37 rfl hf3.is rfl (by omega) (by omega)) ?_
                        refine l_val rfl rfl rfl (r_fieldAddr (n := 0) rfl Tryd.underlying37 rfl Tryd.sizeOf30 rfl) ?_
                        refine l_val rfl rfl rfl (r_load rfl Tryd.isAgg30 rfl (Ext0.cells hE _ _ (hfc 2 _ rfl))) ?_
                        refine l_val rfl rfl rfl (r_move rfl) ?_
                        refine l_val rfl rfl rfl (r_indexAddr_sl rfl Tryd.underlying30 Tryd.sizeOf3 rfl hfw.is rfl (by omega) (by omega)) ?_
                        refine l_val rfl rfl rfl (r_load (v := .int .i64 (iat (fat l (jn : Int)).why n)) rfl Tryd.isAgg3 rfl ((hfw.keep RInt.kept (Ext0.cells hE)).int n (by omega) (by omega))) ?_
                        refine l_new rfl rfl rfl (n_slice rfl Tryd.underlying30 Tryd.sizeOf3 Tryd.zeroValue3 rfl rfl (fill_int1 _) hL hE) ?_
                        rintro _ w ⟨s175, rfl, hs175, hL, hE, hX⟩
                        have hxin := hin1 (jn : Int) (by omega) (by omega) _ (mem_on hnlt hor)
                        refine l_new rfl rfl rfl (n_push (v := iat (fat l (jn : Int)).why n) 2 rfl Tryd.underlying30 info_int rfl rfl hL hE rfl hq (by rw [blk_cell (hL.get 0 rfl)]; rfl) (fun h => absurd h (Nat.not_lt.2 hbq)) (by omega)) ?_
                        rintro _ w ⟨bq2, off2, cap2, cur2, rfl, hq2, hL, hE, hS2⟩
                        have hSn := hS.push (x := iat (fat l (jn : Int)).why n) rfl hxin
                        refine l_val rfl rfl rfl (r_assign rfl) ?_
                        refine l_nil ?_
                        -- region 23
                        refine c_ops ?_
                        refine l_val rfl rfl rfl (r_move rfl) ?_
                        refine l_val rfl rfl rfl (r_add rfl rfl rfl) ?_
                        first | (replace hL : Has w [.blk s97 (.cells ((sv.set jn 1).map (Value.int .i64)).toArray 3 (0, 0)), .blk bq (.cells cur 3 (0, 0))] := by rw [← put_ints]; exact hL) | skip
                        refine l_val rfl rfl rfl (r_assign rfl) ?_
                        refine l_nil ?_
                        first
                          | exact ⟨(fat l (jn : Int)).why.length - (n + 1), by omega, ⟨rfl, rfl, rfl, rfl⟩, n + 1, q2 ++ [iat (fat l (jn : Int)).why n], bq2, off2, cap2, cur2, by omega, rfl, by show Value.int .i64 (IntKind.i64.wrap ((n : Int) + 1)) = _; rw [wrap_succ hnlt hwm], congrArg (fun n => Value.slice (some ⟨bq2, off2, none⟩) n cap2) (by simp), hq2, hSn, by simp; omega, Nat.le_of_not_lt hS2, hL.tail, hE⟩
                          | exact ⟨(fat l (jn : Int)).why.length - (n + 1), by omega, ⟨rfl, rfl, rfl, rfl⟩, n + 1, q2, bq, off, cap, cur, by omega, rfl, by show Value.int .i64 (IntKind.i64.wrap ((n : Int) + 1)) = _; rw [wrap_succ hnlt hwm], rfl, hq, hS.pass hno, by omega, hbq, hL, hE⟩
                      · -- False
                        have hr165 := hb
                        replace hb := of_decide_eq_false hb
                        have hno : ¬ (0 < n ∨ (gat gg (fat l (jn : Int)).a).kind = 8) := fun h => h.elim (fun h => by have := of_decide_eq_false hr136; omega) hb
                        refine c_skip ?_
                        -- region 23
                        refine c_ops ?_
                        refine l_val rfl rfl rfl (r_move rfl) ?_
                        refine l_val rfl rfl rfl (r_add rfl rfl rfl) ?_
                        first | (replace hL : Has w [.blk s97 (.cells ((sv.set jn 1).map (Value.int .i64)).toArray 3 (0, 0)), .blk bq (.cells cur 3 (0, 0))] := by rw [← put_ints]; exact hL) | skip
                        refine l_val rfl rfl rfl (r_assign rfl) ?_
                        refine l_nil ?_
                        first
                          | exact ⟨(fat l (jn : Int)).why.length - (n + 1), by omega, ⟨rfl, rfl, rfl, rfl⟩, n + 1, q2 ++ [iat (fat l (jn : Int)).why n], bq2, off2, cap2, cur2, by omega, rfl, by show Value.int .i64 (IntKind.i64.wrap ((n : Int) + 1)) = _; rw [wrap_succ hnlt hwm], congrArg (fun n => Value.slice (some ⟨bq2, off2, none⟩) n cap2) (by simp), hq2, hSn, by simp; omega, Nat.le_of_not_lt hS2, hL.tail, hE⟩
                          | exact ⟨(fat l (jn : Int)).why.length - (n + 1), by omega, ⟨rfl, rfl, rfl, rfl⟩, n + 1, q2, bq, off, cap, cur, by omega, rfl, by show Value.int .i64 (IntKind.i64.wrap ((n : Int) + 1)) = _; rw [wrap_succ hnlt hwm], rfl, hq, hS.pass hno, by omega, hbq, hL, hE⟩
                    · -- slot 153 is False
                      have hr153 := hb
                      replace hb := of_decide_eq_false hb
                      omega
                  · -- slot 143 is False
                    have hr143 := hb
                    replace hb := of_decide_eq_false hb
                    omega
              · -- False
                have hr131 := hb
                replace hb := of_decide_eq_false hb
                obtain rfl : n = (fat l (jn : Int)).why.length := by omega
                have hSf := hS.finish
                refine c_exit ?_
                first
                  | exact ⟨14 * zeros sv + q'.length, by omega, ⟨rfl, rfl, rfl⟩, sv, q', _, _, rfl, by omega, rfl, .inr ⟨bq, off2, c15 - 1, cur, rfl, hq2, rfl, hbq⟩, hS.skip hb, hL, hE⟩
                  | exact ⟨14 * zeros (sv.set jn 1) + q2.length, by omega, ⟨rfl, rfl, rfl⟩, sv.set jn 1, q2, _, _, rfl, by omega, rfl, .inr ⟨bq, off, cap, cur, rfl, hq, rfl, hbq⟩, hSf, hL, hE⟩
      · -- False
        have hr102 := hb
        replace hb := of_decide_eq_false hb
        obtain rfl : q = [] := List.eq_nil_of_length_eq_zero (by omega)
        refine c_exit ?_
        refine c_seq ?_
        refine c_seq ?_
        -- region 26
        refine c_ops ?_
        refine l_val rfl rfl rfl (r_assign rfl) ?_
        refine l_nil ?_
        refine c_block ?_
        -- loop 2: slots that it writes and that are read in it ahead of that: [18]
        refine c_loop0 (fun m1 e w => (e 14 = .slice (some ⟨s97, 0, none⟩) l.length l.length) ∧ (∃ n : Nat, n ≤ l.length ∧ m1 = l.length - n ∧ e 18 = .int .i64 n ∧ Has w (.blk s97 (.cells ((sv).map (Value.int .i64)).toArray 3 (0, 0)) :: T) ∧ Ext0 wd w)) l.length ?_ ?_
        · exact ⟨rfl, 0, Nat.zero_le _, rfl, rfl, hL, hE⟩
        rintro m1 e w ⟨hq14, hI⟩
        refine c_know (t := 14) (by exact hq14) ?_
        clear hq14
        obtain ⟨n, hnl, hmn, h18, hL, hE⟩ := hI
        refine c_know (t := 18) (by exact h18) ?_
        refine c_seq ?_
        refine c_seq ?_
        -- region 27
        refine c_ops ?_
        refine l_val rfl rfl rfl (r_move rfl) ?_
        refine l_val rfl rfl rfl (r_move rfl) ?_
        refine l_val rfl rfl rfl (r_len rfl Tryd.underlying30 rfl) ?_
        refine l_val rfl rfl rfl (r_lss rfl rfl rfl) ?_
        refine l_nil ?_
        refine c_cond rfl (fun hb => ?_) (fun hb => ?_)
        · -- True
          have hr180 := hb
          replace hb := of_decide_eq_true hb
          have hnlt : n < l.length := by omega
          have hsl := hS.len
          refine c_skip ?_
          refine c_seq ?_
          refine c_block ?_
          refine c_seq ?_
          -- region 29
          refine c_ops ?_
          refine l_val rfl rfl rfl (r_move rfl) ?_
          refine l_val rfl rfl rfl (r_move rfl) ?_
          refine l_val rfl rfl rfl (r_indexAddr_sl rfl Tryd.underlying30 Tryd.sizeOf3 rfl (fun _ => rfl) rfl (by omega) (by omega)) ?_
          refine l_val rfl rfl rfl (r_load (v := .int .i64 (iat sv (n : Int))) rfl Tryd.isAgg3 rfl ((lit_ints (l := sv) (n := l.length) (hL.get 0 rfl) (by simp) hS.len (by omega)).int (n : Int) (by omega) (by omega))) ?_
          refine l_val rfl rfl rfl (r_eql rfl rfl rfl) ?_
          refine l_nil ?_
          refine c_cond rfl (fun hb => ?_) (fun hb => ?_)
          · -- True
            have hr187 := hb
            replace hb := of_decide_eq_true hb
            obtain ⟨a, ha, hr⟩ := hfd.reach n hnlt
            have h1 := (hS.all hat1 hin1 ha hr).2
            rw [h1] at hb
            cases hb
          · -- False
            have hr187 := hb
            replace hb := of_decide_eq_false hb
            refine c_skip ?_
            -- region 28
            refine c_ops ?_
            refine l_val rfl rfl rfl (r_move rfl) ?_
            refine l_val rfl rfl rfl (r_add rfl rfl rfl) ?_
            refine l_val rfl rfl rfl (r_assign rfl) ?_
            refine l_nil ?_
            exact ⟨l.length - (n + 1), by omega, rfl, n + 1, by omega, rfl, by show Value.int .i64 (IntKind.i64.wrap ((n : Int) + 1)) = _; rw [wrap_succ hnlt (by omega)], hL, hE⟩
        · -- False
          have hr180 := hb
          replace hb := of_decide_eq_false hb
          refine c_exit ?_
          refine c_seq ?_
          -- region 31
          refine c_ops ?_
          refine l_by rfl rfl rfl (r_call rfl rfl Tryd.func9 rfl rfl) (works_calls _ (hk0.keep (Ext0.cells (hE0.trans hE)))) ?_   -- outright.go:149 slot 188 := (call {callee=(value (func 9)), args=[], argTypes=[]})
          rintro _ w ⟨rfl, hX⟩
          replace hE := hE.trans hX
          refine ⟨_, rfl, ?_⟩
          refine l_val rfl rfl rfl (r_assign rfl) ?_
          refine l_nil ?_
          refine c_ret ?_
          exact ⟨rfl, hE0.trans hE⟩
end Go.Proofs.YtndophlnapjkhaaDoor.Vc
