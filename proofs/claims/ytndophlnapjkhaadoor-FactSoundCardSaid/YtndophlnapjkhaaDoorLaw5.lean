/- FactCasts gives true. Conditions: those of each statement. -/
import Derived.Test.YtndophlnapjkhaaDoorLaw4
namespace Go.Proofs.YtndophlnapjkhaaDoor.Vc
open Go Go.RowKit
set_option linter.unusedVariables false
set_option linter.unusedSimpArgs false

theorem c_loop0 {P : Program} {n : Nat} {Q : Post} {e : Env} {w : World} {c : Code} (I : Nat → Env → World → Prop) (m : Nat) (h0 : I m e w) (round : ∀ m e' w, I m e' w → cwp P n c (Post.then (fun e' w' => ∃ m', m' < m ∧ I m' e' w') Q) e' w) : cwp P n (.loop c) Q e w := by
  intro a ha b k cs
  have key : ∀ m a e' w, Agrees n a e' → I m e' w →
      ∃ x a' w', lift n Q x a' w' ∧ Arrives P (lone (b.at a (.code c :: .inLoop c :: k)) cs w) b k cs x a' w' := by
    intro m
    induction m using Nat.strongRecOn with
    | _ m ih =>
      intro a e' w ha hI
      obtain ⟨x, a₁, w₁, ⟨e₁, ha₁, hq⟩, harr⟩ := round m e' w hI a ha b (.inLoop c :: k) cs
      cases x with
      | normal =>
        obtain ⟨m', hlt, hI₁⟩ := hq
        obtain ⟨x₂, a₂, w₂, hq₂, harr₂⟩ := ih m' hlt a₁ e₁ w₁ ha₁ hI₁
        exact ⟨x₂, a₂, w₂, hq₂, .of_steps (Steps.trans harr (.one step_inLoop)) harr₂⟩
      | exit id => exact ⟨_, a₁, w₁, ⟨e₁, ha₁, hq⟩, .pass (x := .inLoop c) rfl (fun _ _ => .inl (by simp)) harr⟩
      | goto l => exact ⟨_, a₁, w₁, ⟨e₁, ha₁, hq⟩, .pass (x := .inLoop c) rfl (fun _ _ => .inl (by simp)) harr⟩
      | ret => exact ⟨_, a₁, w₁, ⟨e₁, ha₁, hq⟩, .pass (x := .inLoop c) rfl (fun _ _ => .inl (by simp)) harr⟩
      | panic ch => exact ⟨_, a₁, w₁, ⟨e₁, ha₁, hq⟩, .pass (x := .inLoop c) rfl (fun _ _ => .inl (by simp)) harr⟩
      | outgrown => exact ⟨_, a₁, w₁, ⟨e₁, ha₁, hq⟩, .pass (x := .inLoop c) rfl (fun _ _ => .inl (by simp)) harr⟩
  obtain ⟨x, a', w', hq, harr⟩ := key m a e w ha h0
  exact ⟨x, a', w', hq, .of_steps (.one step_loop) harr⟩
theorem r_beql {w : World} {ρ : Operand → Value} {o : Oper} {x y : Operand} {t' : TypeId} {a b : Bool} (h : o.op = .binOp .eql 4 x y t') (hx : ρ x = .bool a) (hy : ρ y = .bool b) : (execOp ρ o).run Tryd.prog w = .ok (.value (.bool (a == b))) w := by
  have := run_eql_bool (P := Tryd.prog) w 4 a b Tryd.underlying4
  simp [execOp, h, hx, hy, eqGuard, this]
theorem err_two {g : List GNode} {ps : FP} (hck : checkG g = 0) (hin : ps.all (inB g) = true) : (findErr g ps = 160 ∧ ps.all (mayX g false) = false) ∨ (findErr g ps = 0 ∧ ps.all (mayX g false) = true) := by
  cases h : ps.all (mayX g false) with
  | false => exact .inl ⟨err_may hck hin h, rfl⟩
  | true => exact .inr ⟨(err_ok hck hin h).1, rfl⟩
def Cst (g : List GNode) (l : List Fact) (k : Int) : Prop := ∃ j, Reach g l k j ∧ hereF g l j = true
theorem cst_iff {g : List GNode} {l : List Fact} {k : Int} {b : Bool} (h : b = true ↔ checkF g l = 0 ∧ 0 ≤ k ∧ k < l.length ∧ ∃ j, Reach g l k j ∧ hereF g l j = true) (hc : checkF g l = 0) (h0 : 0 ≤ k) (h1 : k < l.length) : b = true ↔ Cst g l k :=
  ⟨fun hb => (h.1 hb).2.2.2, fun hx => h.2 ⟨hc, h0, h1, hx⟩⟩
theorem Cst.step {g : List GNode} {l : List Fact} {k i : Int} (hi : i ∈ onF g (fat l k)) (h : Cst g l i) : Cst g l k := by
  obtain ⟨j, hj, hh⟩ := h
  exact ⟨j, Reach.trans (.step .refl hi) hj, hh⟩
theorem reach_in {g : List GNode} {l : List Fact} {k : Int} (hf : ∀ f ∈ l, ∀ i ∈ onF g f, 0 ≤ i ∧ i < l.length) (h0 : 0 ≤ k) (h1 : k < l.length) {j : Int} (h : Reach g l k j) : 0 ≤ j ∧ j < l.length := by
  induction h with
  | refl => exact ⟨h0, h1⟩
  | step _ hj ih => exact hf _ (fat_mem ih.1 ih.2) _ hj
theorem mem_on {g : List GNode} {f : Fact} {n : Nat} (hn : n < f.why.length) (hor : 0 < n ∨ (gat g f.a).kind = 8) : iat f.why n ∈ onF g f := by
  have h := iat_nat hn
  by_cases h8 : (gat g f.a).kind = 8
  · unfold onF
    rw [if_pos h8]
    exact List.mem_of_getElem? h
  · unfold onF
    rw [if_neg h8]
    have h0 : 0 < n := hor.resolve_right h8
    refine List.mem_of_getElem? (i := n - 1) ?_
    rw [List.getElem?_drop, show 1 + (n - 1) = n by omega]
    exact h
theorem dyn_on {g : List GNode} {P : FP} {f : Fact} (h : DoneAt g P f) (hk : (gat g f.a).kind = 1) : onF g f = [] := by
  obtain ⟨ws, h1, h2, _⟩ := h.nums
  have hon : onP g (f.a, f.b) = [] := by
    have h8 : ¬ (gat g f.a).kind = 8 := by omega
    have h9 : ¬ (gat g f.a).kind = 9 := by omega
    have hu : (unionF g (firstP g (f.a, f.b))).1 = false := by
      show (unionF g ⟨f.a, f.b, _⟩).1 = false
      simp [unionF, h8]
    have hb : (boundF g (firstP g (f.a, f.b))).1 = false := by
      show (boundF g ⟨f.a, f.b, _⟩).1 = false
      simp [boundF, h9]
    have hl : (looseF g (firstP g (f.a, f.b))).1 = true := by
      show (looseF g ⟨f.a, f.b, _⟩).1 = true
      simp [looseF, hk]
    unfold onP byF
    rw [hu, hb, hl]
    rfl
  rw [hon] at h2
  have : ws = [] := List.eq_nil_of_length_eq_zero h2
  rw [h1, doneP_on, this]
theorem cst_dyn {g : List GNode} {l : List Fact} {k : Int} (hon : onF g (fat l k) = []) : Cst g l k ↔ hereF g l k = true := by
  constructor
  · rintro ⟨j, hj, hh⟩
    rw [reach_none hj hon] at hh
    exact hh
  · exact fun h => ⟨k, .refl, h⟩
/-- What the statement asks of one fact. -/
theorem casts_facts {g : List GNode} {qs : FP} {a : List Int} {l : List Fact} (hfd : Found g qs a l) (hok : GraphOk g) {k : Nat} (hk : k < l.length) {b F D N : Bool} (hbk : b = true ↔ Cst g l k) (hD : D = decide ((gat g (fat l k).a).kind = 1)) (hF : F = (membersG g (fat l k).b).any (dynB g)) (hN : N = g.all (fun x => !decide (x.kind = 1))) :
    (N = true → b = false) ∧ (D = true → b = !F) := by
  constructor
  · intro hn
    rw [hN, List.all_eq_true] at hn
    cases hb : b with
    | false => rfl
    | true =>
      obtain ⟨j, hj, hh⟩ := hbk.1 hb
      obtain ⟨h0, h1⟩ := reach_in (fun f hf i hi => (formed_ok (hfd.holds hok hf).1).2 i hi) (by omega) (by omega) hj
      have hfo := (formed_ok (hfd.holds hok (fat_mem h0 h1)).1).1
      have := hn _ (gat_inn hfo.a.1 hfo.a.2)
      unfold hereF dynB at hh
      rw [Bool.and_eq_true] at hh
      rw [hh.1] at this
      cases this
  · intro hd
    rw [hD] at hd
    have hkind := of_decide_eq_true hd
    have hon := dyn_on (hfd.done _ (fat_mem (l := l) (k := (k : Int)) (by omega) (by omega))) hkind
    have h2 := cst_dyn hon
    have h3 : hereF g l k = !F := by
      unfold hereF
      rw [hF]
      simp [dynB, hkind]
    rw [h3] at h2
    cases F with
    | true =>
      cases hb : b with
      | false => rfl
      | true => have := h2.1 (hbk.1 hb); cases this
    | false => exact hbk.2 (h2.2 rfl)
set_option maxHeartbeats 20000000 in
theorem FactCasts_calls (w0 : World) (hk0 : KeysLaid w0) (A : Option Addr) (c : Nat) (g : List GNode) (hg : Nodes w0 A c g) (Ap : Option Addr) (cp : Nat) (ps0 : FP) (hp0 : PairsAt w0 Ap cp ps0) :
    Calls Tryd.prog 5 [.slice A g.length c, .slice Ap ps0.length cp].toArray w0 fun en w' => en = .returned (.bool true) ∧ Ext0 w0 w' := by
  have hE : Ext0 w0 w0 := Ext.refl _ _
  have hL : Has w0 [] := trivial
  refine calls [4] Tryd.func5 rfl rfl rfl rfl ?_
  refine c_seq ?_
  -- region 0
  refine c_ops ?_
  refine l_val rfl rfl rfl (r_assign rfl) ?_
  refine l_nil ?_
  refine c_seq ?_
  -- region 1
  refine c_ops ?_
  refine l_val rfl rfl rfl (r_move rfl) ?_
  refine l_by rfl rfl rfl (r_call rfl rfl Tryd.func8 rfl rfl) (fine_calls _ hk0 A c g hg) ?_   -- outright.go:154 slot 18 := (call {callee=(value (func 8)), args=[(tmp 17)], argTypes=[22]})
  rintro _ w ⟨A1, c1, hen, hn, hX⟩
  obtain ⟨gg, hgg⟩ : ∃ x, x = fineF g := ⟨_, rfl⟩
  have hlen := fineF_len g
  have hfit := fineF_fits g
  have hchk := @fineF_check g
  rw [← hgg] at hen hn hlen hfit hchk
  subst hen
  replace hE := hE.trans hX
  obtain ⟨wa, hwa⟩ : ∃ x, x = w := ⟨_, rfl⟩
  rw [← hwa] at hn hE
  have hE0 := hE
  replace hE : Ext0 wa w := hwa ▸ Ext.refl _ _
  refine ⟨_, rfl, ?_⟩
  refine l_val rfl rfl rfl (r_assign rfl) ?_
  refine l_nil ?_
  refine c_seq ?_
  refine c_seq ?_
  -- region 2
  refine c_ops ?_
  refine l_val rfl rfl rfl (r_move rfl) ?_
  refine l_val rfl rfl rfl (r_len rfl Tryd.underlying22 rfl) ?_
  refine l_val rfl rfl rfl (r_eql rfl rfl rfl) ?_
  refine l_nil ?_
  refine c_cond rfl (fun hb => ?_) (fun hb => ?_)
  · -- True
    have hr21 := hb
    replace hb := of_decide_eq_true hb
    refine c_seq ?_
    -- region 3
    refine c_ops ?_
    refine l_by rfl rfl rfl (r_call rfl rfl Tryd.func9 rfl rfl) (works_calls _ (hk0.keep (Ext0.cells (hE0.trans hE)))) ?_   -- outright.go:156 slot 22 := (call {callee=(value (func 9)), args=[], argTypes=[]})
    rintro _ w ⟨rfl, hX⟩
    replace hE := hE.trans hX
    refine ⟨_, rfl, ?_⟩
    refine l_val rfl rfl rfl (r_assign rfl) ?_
    refine l_nil ?_
    refine c_ret ?_
    exact ⟨rfl, hE0.trans hE⟩
  · -- False
    have hr21 := hb
    replace hb := of_decide_eq_false hb
    have hne : gg ≠ [] := fun h => hb (by rw [h]; rfl)
    have hck := hchk hne
    obtain ⟨hok, _⟩ := ok_of hfit hck
    have hgpos : 0 < gg.length := List.length_pos_iff.2 hne
    refine c_skip ?_
    refine c_seq ?_
    -- region 4
    refine c_ops ?_
    refine l_val rfl rfl rfl (r_move rfl) ?_
    refine l_val rfl rfl rfl (r_move rfl) ?_
    refine l_val rfl rfl rfl (r_move rfl) ?_
    refine l_by rfl rfl rfl (r_call rfl rfl Tryd.func10 rfl rfl) (pairsOf_calls _ A1 gg.length c1 (by omega) hlen Ap cp ps0 (hp0.keep RPair.kept (Ext0.cells (hE0.trans hE)))) ?_   -- outright.go:158 slot 27 := (call {callee=(value (func 10)), args=[(tmp 25), (tmp 26)], argTypes=[22, 23]})
    rintro _ w ⟨ps, A2, c2, rfl, hps, hps8, hpin, hX⟩
    replace hE := hE.trans hX
    replace hn := hn.keep RNode.kept (Ext0.cells hE)
    obtain ⟨wb, hwb⟩ : ∃ x, x = w := ⟨_, rfl⟩
    rw [← hwb] at hn hps hE
    replace hE0 := hE0.trans hE
    replace hE : Ext0 wb w := hwb ▸ Ext.refl _ _
    refine ⟨_, rfl, ?_⟩
    refine l_by rfl rfl rfl (r_call rfl rfl Tryd.func12 rfl rfl) (Find_calls _ A1 c1 gg (hn.keep RNode.kept (Ext0.cells hE)) hfit hlen (hk0.keep (Ext0.cells (hE0.trans hE))) A2 c2 ps (hps.keep RPair.kept (Ext0.cells hE)) (by omega)) ?_   -- outright.go:158 slot 28 := (call {callee=(value (func 12)), args=[(tmp 24), (tmp 27)], argTypes=[22, 23]})
    rintro _ w ⟨A3, c3, A4, c4, rfl, hf3, hi4, hX⟩
    replace hE := hE.trans hX
    replace hn := hn.keep RNode.kept (Ext0.cells hE)
    replace hps := hps.keep RPair.kept (Ext0.cells hE)
    obtain ⟨wc, hwc⟩ : ∃ x, x = w := ⟨_, rfl⟩
    rw [← hwc] at hn hps hf3 hi4 hE
    replace hE0 := hE0.trans hE
    replace hE : Ext0 wc w := hwc ▸ Ext.refl _ _
    refine ⟨_, rfl, ?_⟩
    refine l_val rfl rfl rfl (r_move rfl) ?_
    refine l_val rfl rfl rfl (r_extract rfl rfl rfl) ?_
    refine l_val rfl rfl rfl (r_extract rfl rfl rfl) ?_
    refine l_val rfl rfl rfl (r_extract rfl rfl rfl) ?_
    refine l_val rfl rfl rfl (r_assign rfl) ?_
    refine l_val rfl rfl rfl (r_assign rfl) ?_
    refine l_val rfl rfl rfl (r_assign rfl) ?_
    refine l_nil ?_
    refine c_seq ?_
    refine c_seq ?_
    -- region 5
    refine c_ops ?_
    refine l_val rfl rfl rfl (r_move rfl) ?_
    refine l_val rfl rfl rfl (r_neq rfl rfl rfl) ?_
    refine l_nil ?_
    refine c_cond rfl (fun hb => ?_) (fun hb => ?_)
    · -- True
      have hr33 := hb
      replace hb := of_decide_eq_false (by simpa using hb)
      have hallin := all_in hpin
      have herr : findErr gg ps = 160 := (err_two hck hallin).elim (fun h => h.1) (fun h => absurd h.1 hb)
      refine c_know (t := 7) (v := .int .i64 160) (congrArg (Value.int .i64) herr) ?_
      refine c_seq ?_
      -- region 6
      refine c_ops ?_
      refine l_val rfl rfl rfl (r_move rfl) ?_
      refine l_val rfl rfl rfl (r_eql rfl rfl rfl) ?_
      refine l_know (t := 35) (v := .bool true) rfl ?_
      refine l_val rfl rfl rfl (r_move rfl) ?_
      refine l_by rfl rfl rfl (r_call rfl rfl Tryd.func9 rfl rfl) (works_calls _ (hk0.keep (Ext0.cells (hE0.trans hE)))) ?_   -- outright.go:160 slot 37 := (call {callee=(value (func 9)), args=[], argTypes=[]})
      rintro _ w ⟨rfl, hX⟩
      replace hE := hE.trans hX
      refine ⟨_, rfl, ?_⟩
      refine l_val rfl rfl rfl (r_pick rfl rfl) ?_
      refine l_know (t := 38) (v := .bool true) rfl ?_
      refine l_val rfl rfl rfl (r_assign rfl) ?_
      refine l_nil ?_
      refine c_ret ?_
      exact ⟨rfl, hE0.trans hE⟩
    · -- False
      have hr33 := hb
      replace hb := of_decide_eq_true (by simpa using hb)
      have hallin := all_in hpin
      have hall : ps.all (mayX gg false) = true := (err_two hck hallin).elim (fun h => by rw [h.1] at hb; cases hb) (fun h => h.2)
      clear hb hr33
      obtain ⟨herr, hfo⟩ := err_ok hck hallin hall
      have hqall : ∀ q ∈ ps, InG gg.length q ∧ mayX gg false q = true := fun q hq => ⟨hpin q hq, all_at hall hq⟩
      have hfd := allF_found hok hqall
      obtain ⟨at_, l, hal⟩ : ∃ a l, allF gg ps = (a, l) := ⟨_, _, rfl⟩
      rw [hal] at hfd hfo
      rw [hfo] at hf3 hi4
      replace hf3 : FactsAt wc A3 c3 l := hf3
      replace hi4 : Ints wc A4 c4 at_ := hi4
      replace hfd : Found gg ps at_ l := hfd
      refine c_know (t := 7) (v := .int .i64 0) (congrArg (Value.int .i64) herr) ?_
      refine c_know (t := 5) (v := .slice A3 l.length c3) (congrArg (fun (x : List Int × List Fact) => Value.slice A3 x.2.length c3) hfo) ?_
      obtain ⟨hl256, hcl⟩ := found_check hfd hok hck hlen
      have hfst := found_first hfd hok
      clear hfst herr hck hchk
      refine c_skip ?_
      refine c_fresh (fun e => e 0 = .slice A1 gg.length c1 ∧ e 5 = .slice A3 l.length c3) ⟨rfl, rfl⟩ ?_
      rintro e ⟨hq0, hq5⟩
      refine c_know (t := 0) (by exact hq0) ?_
      refine c_know (t := 5) (by exact hq5) ?_
      clear hq0 hq5
      refine c_seq ?_
      -- region 7
      refine c_ops ?_
      refine l_val rfl rfl rfl (r_assign rfl) ?_
      refine l_nil ?_
      refine c_seq ?_
      refine c_seq ?_
      -- region 8
      refine c_ops ?_
      refine l_val rfl rfl rfl (r_assign rfl) ?_
      refine l_nil ?_
      refine c_block ?_
      -- loop 0: slots that it writes and that are read in it ahead of that: [9, 8]
      refine c_loop0 (fun m1 e w => (e 0 = .slice A1 gg.length c1 ∧ e 5 = .slice A3 l.length c3) ∧ (∃ n : Nat, n ≤ gg.length ∧ m1 = gg.length - n ∧ e 9 = .int .i64 n ∧ e 8 = .bool ((gg.take n).all (fun x => !decide (x.kind = 1))) ∧ Ext0 wc w)) gg.length ?_ ?_
      · exact ⟨⟨rfl, rfl⟩, 0, Nat.zero_le _, rfl, rfl, rfl, hE⟩
      rintro m1 e w ⟨⟨hq0, hq5⟩, hI⟩
      refine c_know (t := 0) (by exact hq0) ?_
      refine c_know (t := 5) (by exact hq5) ?_
      clear hq0 hq5
      obtain ⟨n, hnl, hmn, h9, h8, hE⟩ := hI
      have hL : Has w [] := trivial
      refine c_know (t := 9) (by exact h9) ?_
      refine c_know (t := 8) (by exact h8) ?_
      refine c_seq ?_
      refine c_seq ?_
      -- region 9
      refine c_ops ?_
      refine l_val rfl rfl rfl (r_move rfl) ?_
      refine l_val rfl rfl rfl (r_move rfl) ?_
      refine l_val rfl rfl rfl (r_len rfl Tryd.underlying22 rfl) ?_
      refine l_val rfl rfl rfl (r_lss rfl rfl rfl) ?_
      refine l_nil ?_
      refine c_cond rfl (fun hb => ?_) (fun hb => ?_)
      · -- True
        have hr42 := hb
        replace hb := of_decide_eq_true hb
        have hnlt : n < gg.length := by omega
        obtain ⟨Ak, ck, Al, cl, hnd, _, _⟩ := hn.node n (by omega) (by omega)
        refine c_skip ?_
        refine c_seq ?_
        refine c_block ?_
        -- region 11
        refine c_ops ?_
        refine l_val rfl rfl rfl (r_move rfl) ?_
        refine l_val rfl rfl rfl (r_move rfl) ?_
        refine l_case 46 rfl (fun hb => ?_) (fun hb => ?_)
        · -- slot 46 is True
          have hr46 := hb
          refine l_val rfl rfl rfl (r_move rfl) ?_
          refine l_val rfl rfl rfl (r_move rfl) ?_
          refine l_val rfl rfl rfl (r_indexAddr_sl rfl Tryd.underlying22 Tryd.sizeOf45 rfl hn.is rfl (by omega) (by omega)) ?_
          refine l_val rfl rfl rfl (r_fieldAddr (n := 0) rfl Tryd.underlying45 rfl Tryd.sizeOf3 rfl) ?_
          refine l_val rfl rfl rfl (r_load rfl Tryd.isAgg3 rfl (Ext0.cells hE _ _ (hnd 0 _ rfl))) ?_
          refine l_val rfl rfl rfl (r_neq rfl rfl rfl) ?_
          refine l_val rfl rfl rfl (r_pick rfl rfl) ?_
          refine l_val rfl rfl rfl (r_assign rfl) ?_
          refine l_nil ?_
          -- region 10
          refine c_ops ?_
          refine l_val rfl rfl rfl (r_move rfl) ?_
          refine l_val rfl rfl rfl (r_add rfl rfl rfl) ?_
          refine l_val rfl rfl rfl (r_assign rfl) ?_
          refine l_nil ?_
          exact ⟨gg.length - (n + 1), by omega, ⟨rfl, rfl⟩, n + 1, by omega, rfl, by show Value.int .i64 (IntKind.i64.wrap ((n : Int) + 1)) = _; rw [wrap_succ hnlt (by omega)], congrArg Value.bool (by rw [take_snoc (gat_nat hnlt), List.all_append, hr46]; simp), hE⟩
        · -- slot 46 is False
          have hr46 := hb
          refine l_not rfl rfl rfl ?_
          refine l_not rfl rfl rfl ?_
          refine l_not rfl rfl rfl ?_
          refine l_not rfl rfl rfl ?_
          refine l_not rfl rfl rfl ?_
          refine l_not rfl rfl rfl ?_
          refine l_val rfl rfl rfl (r_pick rfl rfl) ?_
          refine l_val rfl rfl rfl (r_assign rfl) ?_
          refine l_nil ?_
          -- region 10
          refine c_ops ?_
          refine l_val rfl rfl rfl (r_move rfl) ?_
          refine l_val rfl rfl rfl (r_add rfl rfl rfl) ?_
          refine l_val rfl rfl rfl (r_assign rfl) ?_
          refine l_nil ?_
          exact ⟨gg.length - (n + 1), by omega, ⟨rfl, rfl⟩, n + 1, by omega, rfl, by show Value.int .i64 (IntKind.i64.wrap ((n : Int) + 1)) = _; rw [wrap_succ hnlt (by omega)], congrArg Value.bool (by rw [take_snoc (gat_nat hnlt), List.all_append, hr46]; simp), hE⟩
      · -- False
        have hr42 := hb
        replace hb := of_decide_eq_false hb
        obtain rfl : n = gg.length := by omega
        obtain ⟨N, hN⟩ : ∃ N, N = gg.all (fun x => !decide (x.kind = 1)) := ⟨_, rfl⟩
        refine c_exit ?_
        refine c_fresh (fun e => e 0 = .slice A1 gg.length c1 ∧ e 5 = .slice A3 l.length c3 ∧ e 8 = .bool N) ⟨rfl, rfl, (congrArg Value.bool (by rw [hN, List.take_length]))⟩ ?_
        rintro e ⟨hq0, hq5, hq8⟩
        refine c_know (t := 0) (by exact hq0) ?_
        refine c_know (t := 5) (by exact hq5) ?_
        refine c_know (t := 8) (by exact hq8) ?_
        clear hq0 hq5 hq8
        refine c_seq ?_
        refine c_seq ?_
        -- region 12
        refine c_ops ?_
        refine l_val rfl rfl rfl (r_assign rfl) ?_
        refine l_nil ?_
        refine c_block ?_
        -- loop 1: slots that it writes and that are read in it ahead of that: [10]
        refine c_loop0 (fun m1 e w => (e 0 = .slice A1 gg.length c1 ∧ e 5 = .slice A3 l.length c3 ∧ e 8 = .bool N) ∧ (∃ k : Nat, k ≤ l.length ∧ m1 = l.length - k ∧ e 10 = .int .i64 k ∧ Ext0 wc w)) l.length ?_ ?_
        · exact ⟨⟨rfl, rfl, rfl⟩, 0, Nat.zero_le _, rfl, rfl, hE⟩
        rintro m1 e w ⟨⟨hq0, hq5, hq8⟩, hI⟩
        refine c_know (t := 0) (by exact hq0) ?_
        refine c_know (t := 5) (by exact hq5) ?_
        refine c_know (t := 8) (by exact hq8) ?_
        clear hq0 hq5 hq8
        obtain ⟨k, hkl, hmk, h10, hE⟩ := hI
        have hL : Has w [] := trivial
        refine c_know (t := 10) (by exact h10) ?_
        refine c_seq ?_
        refine c_seq ?_
        -- region 13
        refine c_ops ?_
        refine l_val rfl rfl rfl (r_move rfl) ?_
        refine l_val rfl rfl rfl (r_move rfl) ?_
        refine l_val rfl rfl rfl (r_len rfl Tryd.underlying29 rfl) ?_
        refine l_val rfl rfl rfl (r_lss rfl rfl rfl) ?_
        refine l_nil ?_
        refine c_cond rfl (fun hb => ?_) (fun hb => ?_)
        · -- True
          have hr57 := hb
          replace hb := of_decide_eq_true hb
          have hklt : k < l.length := by omega
          obtain ⟨Aw, cw, hfc, hfw⟩ := hf3.fact k (by omega) (by omega)
          have hkm := fat_mem (l := l) (k := (k : Int)) (by omega) (by omega)
          have hfo := (formed_ok (hfd.holds hok hkm).1).1
          have hka0 := hfo.a.1
          have hka1 := hfo.a.2
          obtain ⟨Ak, ck, Al, cl, hna, _, _⟩ := hn.node (fat l k).a hka0 hka1
          obtain ⟨D, hD⟩ : ∃ D, D = decide ((gat gg (fat l k).a).kind = 1) := ⟨_, rfl⟩
          refine c_skip ?_
          refine c_seq ?_
          refine c_block ?_
          refine c_seq ?_
          refine c_seq ?_
          -- region 15
          refine c_ops ?_
          refine l_val rfl rfl rfl (r_move rfl) ?_
          refine l_val rfl rfl rfl (r_move rfl) ?_
          refine l_val rfl rfl rfl (r_indexAddr_sl rfl Tryd.underlying29 Tryd.sizeOf37 rfl hf3.is rfl (by omega) (by omega)) ?_
          refine l_val rfl rfl rfl (r_fieldAddr (n := 0) rfl Tryd.underlying37 rfl Tryd.sizeOf3 rfl) ?_
          refine l_val rfl rfl rfl (r_load rfl Tryd.isAgg3 rfl (Ext0.cells hE _ _ (hfc 0 _ rfl))) ?_
          refine l_val rfl rfl rfl (r_lss rfl rfl rfl) ?_
          refine l_val rfl rfl rfl (r_move rfl) ?_
          refine l_case 66 rfl (fun hb => ?_) (fun hb => ?_)
          · -- slot 66 is True
            have hr66 := hb
            replace hb := of_decide_eq_true hb
            omega
          · -- slot 66 is False
            have hr66 := hb
            replace hb := of_decide_eq_false hb
            refine l_val rfl rfl rfl (r_move rfl) ?_
            refine l_val rfl rfl rfl (r_move rfl) ?_
            refine l_val rfl rfl rfl (r_indexAddr_sl rfl Tryd.underlying29 Tryd.sizeOf37 rfl hf3.is rfl (by omega) (by omega)) ?_
            refine l_val rfl rfl rfl (r_fieldAddr (n := 0) rfl Tryd.underlying37 rfl Tryd.sizeOf3 rfl) ?_
            refine l_val rfl rfl rfl (r_load rfl Tryd.isAgg3 rfl (Ext0.cells hE _ _ (hfc 0 _ rfl))) ?_
            refine l_val rfl rfl rfl (r_move rfl) ?_
            refine l_val rfl rfl rfl (r_len rfl Tryd.underlying22 rfl) ?_
            refine l_val rfl rfl rfl (r_geq rfl rfl rfl) ?_
            refine l_val rfl rfl rfl (r_pick rfl rfl) ?_
            refine l_nil ?_
            refine c_cond rfl (fun hb => ?_) (fun hb => ?_)
            · -- True
              have hr75 := hb
              replace hb := of_decide_eq_true hb
              omega
            · -- False
              have hr75 := hb
              replace hb := of_decide_eq_false hb
              refine c_skip ?_
              refine c_seq ?_
              -- region 17
              refine c_ops ?_
              refine l_val rfl rfl rfl (r_move rfl) ?_
              refine l_val rfl rfl rfl (r_move rfl) ?_
              refine l_val rfl rfl rfl (r_move rfl) ?_
              refine l_by rfl rfl rfl (r_call rfl rfl Tryd.func18 rfl rfl) (Casts_calls _ A1 c1 gg (hn.keep RNode.kept (Ext0.cells hE)) hfit (hk0.keep (Ext0.cells (hE0.trans hE))) A3 c3 l (hf3.keep RFact.kept (Ext0.cells hE)) k) ?_   -- outright.go:170 slot 79 := (call {callee=(value (func 18)), args=[(tmp 76), (tmp 77), (tmp 78)], argTypes=[22, 29, 3]})
              rintro _ w ⟨b, rfl, hb0, hX⟩
              replace hE := hE.trans hX
              refine ⟨_, rfl, ?_⟩
              refine l_val rfl rfl rfl (r_assign rfl) ?_
              refine l_nil ?_
              refine c_seq ?_
              -- region 18
              refine c_ops ?_
              refine l_val rfl rfl rfl (r_move rfl) ?_
              refine l_val rfl rfl rfl (r_move rfl) ?_
              refine l_val rfl rfl rfl (r_move rfl) ?_
              refine l_val rfl rfl rfl (r_indexAddr_sl rfl Tryd.underlying29 Tryd.sizeOf37 rfl hf3.is rfl (by omega) (by omega)) ?_
              refine l_val rfl rfl rfl (r_fieldAddr (n := 0) rfl Tryd.underlying37 rfl Tryd.sizeOf3 rfl) ?_
              refine l_val rfl rfl rfl (r_load rfl Tryd.isAgg3 rfl (Ext0.cells hE _ _ (hfc 1 _ rfl))) ?_
              refine l_by rfl rfl rfl (r_call rfl rfl Tryd.func19 rfl rfl) (Members_calls _ A1 c1 gg (hn.keep RNode.kept (Ext0.cells hE)) hok.fits (fat l k).b) ?_   -- outright.go:171 slot 86 := (call {callee=(value (func 19)), args=[(tmp 80), (tmp 85)], argTypes=[22, 3]})
              rintro _ w ⟨v, rfl, hrow, hX⟩
              replace hE := hE.trans hX
              obtain ⟨A6, c6, hv6, hmem, _⟩ := Sl.ofInts (l := (membersG gg (fat l k).b)) hrow
              subst hv6
              refine ⟨_, rfl, ?_⟩
              refine l_val rfl rfl rfl (r_assign rfl) ?_
              refine l_nil ?_
              refine c_seq ?_
              -- region 19
              refine c_ops ?_
              refine l_val rfl rfl rfl (r_assign rfl) ?_
              refine l_nil ?_
              refine c_seq ?_
              refine c_seq ?_
              -- region 20
              refine c_ops ?_
              refine l_val rfl rfl rfl (r_assign rfl) ?_
              refine l_nil ?_
              refine c_block ?_
              -- loop 2: slots that it writes and that are read in it ahead of that: [14, 13]
              refine c_loop0 (fun m1 e w => (e 0 = .slice A1 gg.length c1 ∧ e 5 = .slice A3 l.length c3 ∧ e 8 = .bool N ∧ e 10 = .int .i64 (k : Int) ∧ e 11 = .bool b ∧ e 12 = .slice A6 (membersG gg (fat l k).b).length c6) ∧ (∃ i : Nat, i ≤ (membersG gg (fat l k).b).length ∧ m1 = (membersG gg (fat l k).b).length - i ∧ e 14 = .int .i64 i ∧ e 13 = .bool (((membersG gg (fat l k).b).take i).any (dynB gg)) ∧ Ints w A6 c6 (membersG gg (fat l k).b) ∧ Ext0 wc w)) (membersG gg (fat l k).b).length ?_ ?_
              · exact ⟨⟨rfl, rfl, rfl, rfl, rfl, rfl⟩, 0, Nat.zero_le _, rfl, rfl, rfl, hmem, hE⟩
              rintro m1 e w ⟨⟨hq0, hq5, hq8, hq10, hq11, hq12⟩, hI⟩
              refine c_know (t := 0) (by exact hq0) ?_
              refine c_know (t := 5) (by exact hq5) ?_
              refine c_know (t := 8) (by exact hq8) ?_
              refine c_know (t := 10) (by exact hq10) ?_
              refine c_know (t := 11) (by exact hq11) ?_
              refine c_know (t := 12) (by exact hq12) ?_
              clear hq0 hq5 hq8 hq10 hq11 hq12
              obtain ⟨i, hil, hmi, h14, h13, hmm, hE⟩ := hI
              have hL : Has w [] := trivial
              refine c_know (t := 14) (by exact h14) ?_
              refine c_know (t := 13) (by exact h13) ?_
              have hmmx := hmm.max
              refine c_seq ?_
              refine c_seq ?_
              -- region 21
              refine c_ops ?_
              refine l_val rfl rfl rfl (r_move rfl) ?_
              refine l_val rfl rfl rfl (r_move rfl) ?_
              refine l_val rfl rfl rfl (r_len rfl Tryd.underlying30 rfl) ?_
              refine l_val rfl rfl rfl (r_lss rfl rfl rfl) ?_
              refine l_nil ?_
              refine c_cond rfl (fun hb => ?_) (fun hb => ?_)
              · -- True
                have hr90 := hb
                replace hb := of_decide_eq_true hb
                have hilt : i < (membersG gg (fat l k).b).length := by omega
                obtain ⟨x, hxE⟩ : ∃ x, x = iat (membersG gg (fat l k).b) i := ⟨_, rfl⟩
                have hxn : (membersG gg (fat l k).b)[i]? = some x := by rw [hxE]; exact iat_nat hilt
                obtain ⟨hx0, hx1, _⟩ := hok.members (List.mem_of_getElem? hxn)
                obtain ⟨Bk, dk, Bl, dl, hnx, _, _⟩ := hn.node x hx0 hx1
                refine c_skip ?_
                refine c_seq ?_
                refine c_block ?_
                -- region 23
                refine c_ops ?_
                refine l_val rfl rfl rfl (r_move rfl) ?_
                refine l_val rfl rfl rfl (r_move rfl) ?_
                refine l_case 94 rfl (fun hb => ?_) (fun hb => ?_)
                · -- slot 94 is True
                  have hr94 := hb
                  refine l_not rfl rfl rfl ?_
                  refine l_not rfl rfl rfl ?_
                  refine l_not rfl rfl rfl ?_
                  refine l_not rfl rfl rfl ?_
                  refine l_not rfl rfl rfl ?_
                  refine l_not rfl rfl rfl ?_
                  refine l_not rfl rfl rfl ?_
                  refine l_not rfl rfl rfl ?_
                  refine l_not rfl rfl rfl ?_
                  refine l_not rfl rfl rfl ?_
                  refine l_not rfl rfl rfl ?_
                  refine l_not rfl rfl rfl ?_
                  refine l_not rfl rfl rfl ?_
                  refine l_not rfl rfl rfl ?_
                  refine l_not rfl rfl rfl ?_
                  refine l_not rfl rfl rfl ?_
                  refine l_not rfl rfl rfl ?_
                  refine l_not rfl rfl rfl ?_
                  refine l_not rfl rfl rfl ?_
                  refine l_not rfl rfl rfl ?_
                  refine l_not rfl rfl rfl ?_
                  refine l_not rfl rfl rfl ?_
                  refine l_not rfl rfl rfl ?_
                  refine l_not rfl rfl rfl ?_
                  refine l_not rfl rfl rfl ?_
                  refine l_val rfl rfl rfl (r_pick rfl rfl) ?_
                  refine l_val rfl rfl rfl (r_assign rfl) ?_
                  refine l_nil ?_
                  -- region 22
                  refine c_ops ?_
                  refine l_val rfl rfl rfl (r_move rfl) ?_
                  refine l_val rfl rfl rfl (r_add rfl rfl rfl) ?_
                  refine l_val rfl rfl rfl (r_assign rfl) ?_
                  refine l_nil ?_
                  exact ⟨(membersG gg (fat l k).b).length - (i + 1), by omega, ⟨rfl, rfl, rfl, rfl, rfl, rfl⟩, i + 1, by omega, rfl, by show Value.int .i64 (IntKind.i64.wrap ((i : Int) + 1)) = _; rw [wrap_succ hilt hmmx], congrArg Value.bool (by rw [take_snoc hxn, List.any_append, hr94]; simp [dynB]), hmm, hE⟩
                · -- slot 94 is False
                  have hr94 := hb
                  refine l_val rfl rfl rfl (r_move rfl) ?_
                  refine l_val rfl rfl rfl (r_move rfl) ?_
                  refine l_val rfl rfl rfl (r_indexAddr_sl rfl Tryd.underlying30 Tryd.sizeOf3 rfl hmm.is rfl (by omega) (by omega)) ?_
                  refine l_val rfl rfl rfl (r_load (v := .int .i64 x) rfl Tryd.isAgg3 rfl (by rw [hxE]; exact hmm.int i (by omega) (by omega))) ?_
                  refine l_val rfl rfl rfl (r_geq rfl rfl rfl) ?_
                  refine l_val rfl rfl rfl (r_move rfl) ?_
                  refine l_case 100 rfl (fun hb => ?_) (fun hb => ?_)
                  · -- slot 100 is True
                    have hr100 := hb
                    replace hb := of_decide_eq_true hb
                    refine l_val rfl rfl rfl (r_move rfl) ?_
                    refine l_val rfl rfl rfl (r_move rfl) ?_
                    refine l_val rfl rfl rfl (r_indexAddr_sl rfl Tryd.underlying30 Tryd.sizeOf3 rfl hmm.is rfl (by omega) (by omega)) ?_
                    refine l_val rfl rfl rfl (r_load (v := .int .i64 x) rfl Tryd.isAgg3 rfl (by rw [hxE]; exact hmm.int i (by omega) (by omega))) ?_
                    refine l_val rfl rfl rfl (r_move rfl) ?_
                    refine l_val rfl rfl rfl (r_len rfl Tryd.underlying22 rfl) ?_
                    refine l_val rfl rfl rfl (r_lss rfl rfl rfl) ?_
                    refine l_val rfl rfl rfl (r_pick rfl rfl) ?_
                    refine l_val rfl rfl rfl (r_move rfl) ?_
                    refine l_case 109 rfl (fun hb => ?_) (fun hb => ?_)
                    · -- slot 109 is True
                      have hr109 := hb
                      replace hb := of_decide_eq_true hb
                      refine l_val rfl rfl rfl (r_move rfl) ?_
                      refine l_val rfl rfl rfl (r_move rfl) ?_
                      refine l_val rfl rfl rfl (r_move rfl) ?_
                      refine l_val rfl rfl rfl (r_indexAddr_sl rfl Tryd.underlying30 Tryd.sizeOf3 rfl hmm.is rfl (by omega) (by omega)) ?_
                      refine l_val rfl rfl rfl (r_load (v := .int .i64 x) rfl Tryd.isAgg3 rfl (by rw [hxE]; exact hmm.int i (by omega) (by omega))) ?_
                      refine l_val rfl rfl rfl (r_indexAddr_sl rfl Tryd.underlying22 Tryd.sizeOf45 rfl hn.is rfl hx0 hx1) ?_
                      refine l_val rfl rfl rfl (r_fieldAddr (n := 0) rfl Tryd.underlying45 rfl Tryd.sizeOf3 rfl) ?_
                      refine l_val rfl rfl rfl (r_load rfl Tryd.isAgg3 rfl (Ext0.cells hE _ _ (hnx 0 _ rfl))) ?_
                      refine l_val rfl rfl rfl (r_eql rfl rfl rfl) ?_
                      refine l_val rfl rfl rfl (r_pick rfl rfl) ?_
                      refine l_val rfl rfl rfl (r_pick rfl rfl) ?_
                      refine l_val rfl rfl rfl (r_assign rfl) ?_
                      refine l_nil ?_
                      -- region 22
                      refine c_ops ?_
                      refine l_val rfl rfl rfl (r_move rfl) ?_
                      refine l_val rfl rfl rfl (r_add rfl rfl rfl) ?_
                      refine l_val rfl rfl rfl (r_assign rfl) ?_
                      refine l_nil ?_
                      exact ⟨(membersG gg (fat l k).b).length - (i + 1), by omega, ⟨rfl, rfl, rfl, rfl, rfl, rfl⟩, i + 1, by omega, rfl, by show Value.int .i64 (IntKind.i64.wrap ((i : Int) + 1)) = _; rw [wrap_succ hilt hmmx], congrArg Value.bool (by rw [take_snoc hxn, List.any_append, hr94]; simp [dynB]), hmm, hE⟩
                    · -- slot 109 is False
                      have hr109 := hb
                      replace hb := of_decide_eq_false hb
                      omega
                  · -- slot 100 is False
                    have hr100 := hb
                    replace hb := of_decide_eq_false hb
                    omega
              · -- False
                have hr90 := hb
                replace hb := of_decide_eq_false hb
                obtain rfl : i = (membersG gg (fat l k).b).length := by omega
                obtain ⟨F, hF⟩ : ∃ F, F = (membersG gg (fat l k).b).any (dynB gg) := ⟨_, rfl⟩
                have hbk := cst_iff hb0 hcl (by omega) (by omega)
                obtain ⟨hNb, hDF⟩ := casts_facts hfd hok hklt hbk hD hF hN
                refine c_exit ?_
                refine c_fresh (fun e => e 0 = .slice A1 gg.length c1 ∧ e 5 = .slice A3 l.length c3 ∧ e 8 = .bool N ∧ e 10 = .int .i64 (k : Int) ∧ e 11 = .bool b ∧ e 13 = .bool F) ⟨rfl, rfl, rfl, rfl, rfl, (congrArg Value.bool (by rw [hF, List.take_length]))⟩ ?_
                rintro e ⟨hq0, hq5, hq8, hq10, hq11, hq13⟩
                refine c_know (t := 0) (by exact hq0) ?_
                refine c_know (t := 5) (by exact hq5) ?_
                refine c_know (t := 8) (by exact hq8) ?_
                refine c_know (t := 10) (by exact hq10) ?_
                refine c_know (t := 11) (by exact hq11) ?_
                refine c_know (t := 13) (by exact hq13) ?_
                clear hq0 hq5 hq8 hq10 hq11 hq13
                refine c_seq ?_
                -- region 24
                refine c_ops ?_
                refine l_val rfl rfl rfl (r_move rfl) ?_
                refine l_val rfl rfl rfl (r_move rfl) ?_
                refine l_val rfl rfl rfl (r_move rfl) ?_
                refine l_val rfl rfl rfl (r_indexAddr_sl rfl Tryd.underlying29 Tryd.sizeOf37 rfl hf3.is rfl (by omega) (by omega)) ?_
                refine l_val rfl rfl rfl (r_fieldAddr (n := 0) rfl Tryd.underlying37 rfl Tryd.sizeOf3 rfl) ?_
                refine l_val rfl rfl rfl (r_load rfl Tryd.isAgg3 rfl (Ext0.cells hE _ _ (hfc 0 _ rfl))) ?_
                refine l_val rfl rfl rfl (r_indexAddr_sl rfl Tryd.underlying22 Tryd.sizeOf45 rfl hn.is rfl hka0 hka1) ?_
                refine l_val rfl rfl rfl (r_fieldAddr (n := 0) rfl Tryd.underlying45 rfl Tryd.sizeOf3 rfl) ?_
                refine l_val rfl rfl rfl (r_load rfl Tryd.isAgg3 rfl (Ext0.cells hE _ _ (hna 0 _ rfl))) ?_
                refine l_val rfl rfl rfl (r_eql rfl rfl rfl) ?_
                refine l_val rfl rfl rfl (r_assign rfl) ?_
                refine l_know (t := 15) (v := .bool D) (congrArg Value.bool hD.symm) ?_
                refine l_nil ?_
                refine c_seq ?_
                refine c_cut (fun e w => (e 0 = .slice A1 gg.length c1 ∧ e 5 = .slice A3 l.length c3 ∧ e 8 = .bool N ∧ e 10 = .int .i64 (k : Int) ∧ e 11 = .bool b ∧ e 15 = .bool D) ∧ e 142 = .bool false ∧ Ext0 wc w) ?_ ?_
                · -- merged
                  -- region 25
                  refine c_ops ?_
                  refine l_val rfl rfl rfl (r_move rfl) ?_
                  refine l_val rfl rfl rfl (r_move rfl) ?_
                  refine l_case 132 rfl (fun hb => ?_) (fun hb => ?_)
                  · -- slot 132 is True
                    have hr132 := hb
                    refine l_val rfl rfl rfl (r_move rfl) ?_
                    refine l_val rfl rfl rfl (r_pick rfl rfl) ?_
                    refine l_val rfl rfl rfl (r_move rfl) ?_
                    refine l_case 135 rfl (fun hb => ?_) (fun hb => ?_)
                    · -- slot 135 is True
                      have hr135 := hb
                      exact absurd (hNb hr132) (by rw [hb]; decide)
                    · -- slot 135 is False
                      have hr135 := hb
                      refine l_val rfl rfl rfl (r_move rfl) ?_
                      refine l_val rfl rfl rfl (r_move rfl) ?_
                      refine l_case 137 rfl (fun hb => ?_) (fun hb => ?_)
                      · -- slot 137 is True
                        have hr137 := hb
                        refine l_val rfl rfl rfl (r_move rfl) ?_
                        refine l_val rfl rfl rfl (r_move rfl) ?_
                        refine l_val rfl rfl rfl (r_beql rfl rfl rfl) ?_
                        refine l_val rfl rfl rfl (r_pick rfl rfl) ?_
                        refine l_val rfl rfl rfl (r_pick rfl rfl) ?_
                        refine l_nil ?_
                        refine ⟨⟨rfl, rfl, rfl, rfl, rfl, rfl⟩, ?_⟩
                        first | exact ⟨rfl, hE⟩ | exact ⟨congrArg Value.bool (by have h := hDF hr137; rw [h]; cases F <;> rfl), hE⟩
                      · -- slot 137 is False
                        have hr137 := hb
                        refine l_not rfl rfl rfl ?_
                        refine l_not rfl rfl rfl ?_
                        refine l_not rfl rfl rfl ?_
                        refine l_val rfl rfl rfl (r_pick rfl rfl) ?_
                        refine l_val rfl rfl rfl (r_pick rfl rfl) ?_
                        refine l_nil ?_
                        refine ⟨⟨rfl, rfl, rfl, rfl, rfl, rfl⟩, ?_⟩
                        first | exact ⟨rfl, hE⟩ | exact ⟨congrArg Value.bool (by have h := hDF hr137; rw [h]; cases F <;> rfl), hE⟩
                  · -- slot 132 is False
                    have hr132 := hb
                    refine l_not rfl rfl rfl ?_
                    refine l_val rfl rfl rfl (r_pick rfl rfl) ?_
                    refine l_val rfl rfl rfl (r_move rfl) ?_
                    refine l_val rfl rfl rfl (r_move rfl) ?_
                    refine l_val rfl rfl rfl (r_move rfl) ?_
                    refine l_case 137 rfl (fun hb => ?_) (fun hb => ?_)
                    · -- slot 137 is True
                      have hr137 := hb
                      refine l_val rfl rfl rfl (r_move rfl) ?_
                      refine l_val rfl rfl rfl (r_move rfl) ?_
                      refine l_val rfl rfl rfl (r_beql rfl rfl rfl) ?_
                      refine l_val rfl rfl rfl (r_pick rfl rfl) ?_
                      refine l_val rfl rfl rfl (r_pick rfl rfl) ?_
                      refine l_nil ?_
                      refine ⟨⟨rfl, rfl, rfl, rfl, rfl, rfl⟩, ?_⟩
                      first | exact ⟨rfl, hE⟩ | exact ⟨congrArg Value.bool (by have h := hDF hr137; rw [h]; cases F <;> rfl), hE⟩
                    · -- slot 137 is False
                      have hr137 := hb
                      refine l_not rfl rfl rfl ?_
                      refine l_not rfl rfl rfl ?_
                      refine l_not rfl rfl rfl ?_
                      refine l_val rfl rfl rfl (r_pick rfl rfl) ?_
                      refine l_val rfl rfl rfl (r_pick rfl rfl) ?_
                      refine l_nil ?_
                      refine ⟨⟨rfl, rfl, rfl, rfl, rfl, rfl⟩, ?_⟩
                      first | exact ⟨rfl, hE⟩ | exact ⟨congrArg Value.bool (by have h := hDF hr137; rw [h]; cases F <;> rfl), hE⟩
                rintro e w ⟨⟨hq0, hq5, hq8, hq10, hq11, hq15⟩, hI⟩
                refine c_know (t := 0) (by exact hq0) ?_
                refine c_know (t := 5) (by exact hq5) ?_
                refine c_know (t := 8) (by exact hq8) ?_
                refine c_know (t := 10) (by exact hq10) ?_
                refine c_know (t := 11) (by exact hq11) ?_
                refine c_know (t := 15) (by exact hq15) ?_
                clear hq0 hq5 hq8 hq10 hq11 hq15
                obtain ⟨h142, hE⟩ := hI
                refine c_know (t := 142) (by exact h142) ?_
                have hL : Has w [] := trivial
                refine c_no rfl ?_
                refine c_skip ?_
                refine c_seq ?_
                refine c_seq ?_
                -- region 27
                refine c_ops ?_
                refine l_val rfl rfl rfl (r_move rfl) ?_
                refine l_val rfl rfl rfl (r_move rfl) ?_
                refine l_case 144 rfl (fun hb => ?_) (fun hb => ?_)
                · -- slot 144 is True
                  have hr144 := hb
                  refine l_not rfl rfl rfl ?_
                  refine l_val rfl rfl rfl (r_pick rfl rfl) ?_
                  refine l_nil ?_
                  refine c_yes rfl ?_
                  refine c_exit ?_
                  -- region 14
                  refine c_ops ?_
                  refine l_val rfl rfl rfl (r_move rfl) ?_
                  refine l_val rfl rfl rfl (r_add rfl rfl rfl) ?_
                  refine l_val rfl rfl rfl (r_assign rfl) ?_
                  refine l_nil ?_
                  exact ⟨l.length - (k + 1), by omega, ⟨rfl, rfl, rfl⟩, k + 1, by omega, rfl, by show Value.int .i64 (IntKind.i64.wrap ((k : Int) + 1)) = _; rw [wrap_succ hklt (by omega)], hE⟩
                · -- slot 144 is False
                  have hr144 := hb
                  refine l_val rfl rfl rfl (r_move rfl) ?_
                  refine l_val rfl rfl rfl (r_pick rfl rfl) ?_
                  refine l_nil ?_
                  refine c_cond rfl (fun hb => ?_) (fun hb => ?_)
                  · -- True
                    have hr146 := hb
                    refine c_exit ?_
                    -- region 14
                    refine c_ops ?_
                    refine l_val rfl rfl rfl (r_move rfl) ?_
                    refine l_val rfl rfl rfl (r_add rfl rfl rfl) ?_
                    refine l_val rfl rfl rfl (r_assign rfl) ?_
                    refine l_nil ?_
                    exact ⟨l.length - (k + 1), by omega, ⟨rfl, rfl, rfl⟩, k + 1, by omega, rfl, by show Value.int .i64 (IntKind.i64.wrap ((k : Int) + 1)) = _; rw [wrap_succ hklt (by omega)], hE⟩
                  · -- False
                    have hr146 := hb
                    refine c_skip ?_
                    refine c_seq ?_
                    -- region 28
                    refine c_ops ?_
                    refine l_val rfl rfl rfl (r_assign rfl) ?_
                    refine l_nil ?_
                    refine c_block ?_
                    -- loop 3: slots that it writes and that are read in it ahead of that: [16]
                    refine c_loop0 (fun m1 e w => (e 0 = .slice A1 gg.length c1 ∧ e 5 = .slice A3 l.length c3 ∧ e 8 = .bool N ∧ e 10 = .int .i64 (k : Int)) ∧ (∃ n : Nat, n ≤ (fat l k).why.length ∧ m1 = (fat l k).why.length - n ∧ e 16 = .int .i64 n ∧ Ext0 wc w)) (fat l k).why.length ?_ ?_
                    · exact ⟨⟨rfl, rfl, rfl, rfl⟩, 0, Nat.zero_le _, rfl, rfl, hE⟩
                    rintro m1 e w ⟨⟨hq0, hq5, hq8, hq10⟩, hI⟩
                    refine c_know (t := 0) (by exact hq0) ?_
                    refine c_know (t := 5) (by exact hq5) ?_
                    refine c_know (t := 8) (by exact hq8) ?_
                    refine c_know (t := 10) (by exact hq10) ?_
                    clear hq0 hq5 hq8 hq10
                    obtain ⟨n, hnl, hmn, h16, hE⟩ := hI
                    have hL : Has w [] := trivial
                    refine c_know (t := 16) (by exact h16) ?_
                    refine c_seq ?_
                    refine c_seq ?_
                    -- region 29
                    refine c_ops ?_
                    refine l_val rfl rfl rfl (r_move rfl) ?_
                    refine l_val rfl rfl rfl (r_move rfl) ?_
                    refine l_val rfl rfl rfl (r_move rfl) ?_
                    refine l_val rfl rfl rfl (r_indexAddr_sl rfl Tryd.underlying29 Tryd.sizeOf37 rfl hf3.is rfl (by omega) (by omega)) ?_
                    refine l_val rfl rfl rfl (r_fieldAddr (n := 0) rfl Tryd.underlying37 rfl Tryd.sizeOf30 rfl) ?_
                    refine l_val rfl rfl rfl (r_load rfl Tryd.isAgg30 rfl (Ext0.cells hE _ _ (hfc 2 _ rfl))) ?_
                    refine l_val rfl rfl rfl (r_len rfl Tryd.underlying30 rfl) ?_
                    refine l_val rfl rfl rfl (r_lss rfl rfl rfl) ?_
                    refine l_nil ?_
                    refine c_cond rfl (fun hb => ?_) (fun hb => ?_)
                    · -- True
                      have hr154 := hb
                      replace hb := of_decide_eq_true hb
                      have hnlt : n < (fat l k).why.length := by omega
                      refine c_skip ?_
                      refine c_seq ?_
                      refine c_block ?_
                      refine c_seq ?_
                      -- region 31
                      refine c_ops ?_
                      refine l_val rfl rfl rfl (r_move rfl) ?_
                      refine l_val rfl rfl rfl (r_gtr rfl rfl rfl) ?_
                      refine l_val rfl rfl rfl (r_move rfl) ?_
                      refine l_case 159 rfl (fun hb => ?_) (fun hb => ?_)
                      · -- slot 159 is True
                        have hr159 := hb
                        replace hb := of_decide_eq_true hb
                        have hor : 0 < n ∨ (gat gg (fat l k).a).kind = 8 := .inl (by omega)
                        refine l_not rfl rfl rfl ?_
                        refine l_not rfl rfl rfl ?_
                        refine l_not rfl rfl rfl ?_
                        refine l_not rfl rfl rfl ?_
                        refine l_not rfl rfl rfl ?_
                        refine l_not rfl rfl rfl ?_
                        refine l_not rfl rfl rfl ?_
                        refine l_not rfl rfl rfl ?_
                        refine l_not rfl rfl rfl ?_
                        refine l_not rfl rfl rfl ?_
                        refine l_val rfl rfl rfl (r_pick rfl rfl) ?_
                        refine l_val rfl rfl rfl (r_move rfl) ?_
                        refine l_val rfl rfl rfl (r_move rfl) ?_
                        refine l_val rfl rfl rfl (r_move rfl) ?_
                        refine l_val rfl rfl rfl (r_move rfl) ?_
                        refine l_val rfl rfl rfl (r_move rfl) ?_
                        refine l_val rfl rfl rfl (r_indexAddr_sl rfl Tryd.underlying29 Tryd.sizeOf37 rfl hf3.is rfl (by omega) (by omega)) ?_
                        refine l_val rfl rfl rfl (r_fieldAddr (n := 0) rfl Tryd.underlying37 rfl Tryd.sizeOf30 rfl) ?_
                        refine l_val rfl rfl rfl (r_load rfl Tryd.isAgg30 rfl (Ext0.cells hE _ _ (hfc 2 _ rfl))) ?_
                        refine l_val rfl rfl rfl (r_move rfl) ?_
                        refine l_val rfl rfl rfl (r_indexAddr_sl rfl Tryd.underlying30 Tryd.sizeOf3 rfl hfw.is rfl (by omega) (by omega)) ?_
                        refine l_val rfl rfl rfl (r_load (v := .int .i64 (iat (fat l k).why n)) rfl Tryd.isAgg3 rfl ((hfw.keep RInt.kept (Ext0.cells hE)).int n (by omega) (by omega))) ?_
                        refine l_by rfl rfl rfl (r_call rfl rfl Tryd.func18 rfl rfl) (Casts_calls _ A1 c1 gg (hn.keep RNode.kept (Ext0.cells hE)) hfit (hk0.keep (Ext0.cells (hE0.trans hE))) A3 c3 l (hf3.keep RFact.kept (Ext0.cells hE)) (iat (fat l k).why n)) ?_   -- outright.go:184 slot 182 := (call {callee=(value (func 18)), args=[(tmp 172), (tmp 173), (tmp 181)], argTypes=[22, 29, 3]})
                        rintro _ w ⟨b2, rfl, hb2, hX⟩
                        replace hE := hE.trans hX
                        refine ⟨_, rfl, ?_⟩
                        refine l_val rfl rfl rfl (r_pick rfl rfl) ?_
                        refine l_nil ?_
                        refine c_cond rfl (fun hb => ?_) (fun hb => ?_)
                        · -- True
                          have hr183 := hb
                          have hc2 : Cst gg l k := Cst.step (mem_on hnlt hor) (hb2.1 hb).2.2.2
                          have hbt := hbk.2 hc2
                          rw [hr146] at hbt
                          cases hbt
                        · -- False
                          have hr183 := hb
                          refine c_skip ?_
                          -- region 30
                          refine c_ops ?_
                          refine l_val rfl rfl rfl (r_move rfl) ?_
                          refine l_val rfl rfl rfl (r_add rfl rfl rfl) ?_
                          refine l_val rfl rfl rfl (r_assign rfl) ?_
                          refine l_nil ?_
                          exact ⟨(fat l k).why.length - (n + 1), by omega, ⟨rfl, rfl, rfl, rfl⟩, n + 1, by omega, rfl, by show Value.int .i64 (IntKind.i64.wrap ((n : Int) + 1)) = _; rw [wrap_succ hnlt hfw.max], hE⟩
                      · -- slot 159 is False
                        have hr159 := hb
                        replace hb := of_decide_eq_false hb
                        refine l_val rfl rfl rfl (r_move rfl) ?_
                        refine l_val rfl rfl rfl (r_move rfl) ?_
                        refine l_val rfl rfl rfl (r_move rfl) ?_
                        refine l_val rfl rfl rfl (r_indexAddr_sl rfl Tryd.underlying29 Tryd.sizeOf37 rfl hf3.is rfl (by omega) (by omega)) ?_
                        refine l_val rfl rfl rfl (r_fieldAddr (n := 0) rfl Tryd.underlying37 rfl Tryd.sizeOf3 rfl) ?_
                        refine l_val rfl rfl rfl (r_load rfl Tryd.isAgg3 rfl (Ext0.cells hE _ _ (hfc 0 _ rfl))) ?_
                        refine l_val rfl rfl rfl (r_indexAddr_sl rfl Tryd.underlying22 Tryd.sizeOf45 rfl hn.is rfl hka0 hka1) ?_
                        refine l_val rfl rfl rfl (r_fieldAddr (n := 0) rfl Tryd.underlying45 rfl Tryd.sizeOf3 rfl) ?_
                        refine l_val rfl rfl rfl (r_load rfl Tryd.isAgg3 rfl (Ext0.cells hE _ _ (hna 0 _ rfl))) ?_
                        refine l_val rfl rfl rfl (r_eql rfl rfl rfl) ?_
                        refine l_val rfl rfl rfl (r_pick rfl rfl) ?_
                        refine l_val rfl rfl rfl (r_move rfl) ?_
                        refine l_case 171 rfl (fun hb => ?_) (fun hb => ?_)
                        · -- slot 171 is True
                          have hr171 := hb
                          replace hb := of_decide_eq_true hb
                          have hor : 0 < n ∨ (gat gg (fat l k).a).kind = 8 := .inr hb
                          refine l_val rfl rfl rfl (r_move rfl) ?_
                          refine l_val rfl rfl rfl (r_move rfl) ?_
                          refine l_val rfl rfl rfl (r_move rfl) ?_
                          refine l_val rfl rfl rfl (r_move rfl) ?_
                          refine l_val rfl rfl rfl (r_indexAddr_sl rfl Tryd.underlying29 Tryd.sizeOf37 rfl hf3.is rfl (by omega) (by omega)) ?_
                          refine l_val rfl rfl rfl (r_fieldAddr (n := 0) rfl Tryd.underlying37 rfl Tryd.sizeOf30 rfl) ?_
                          refine l_val rfl rfl rfl (r_load rfl Tryd.isAgg30 rfl (Ext0.cells hE _ _ (hfc 2 _ rfl))) ?_
                          refine l_val rfl rfl rfl (r_move rfl) ?_
                          refine l_val rfl rfl rfl (r_indexAddr_sl rfl Tryd.underlying30 Tryd.sizeOf3 rfl hfw.is rfl (by omega) (by omega)) ?_
                          refine l_val rfl rfl rfl (r_load (v := .int .i64 (iat (fat l k).why n)) rfl Tryd.isAgg3 rfl ((hfw.keep RInt.kept (Ext0.cells hE)).int n (by omega) (by omega))) ?_
                          refine l_by rfl rfl rfl (r_call rfl rfl Tryd.func18 rfl rfl) (Casts_calls _ A1 c1 gg (hn.keep RNode.kept (Ext0.cells hE)) hfit (hk0.keep (Ext0.cells (hE0.trans hE))) A3 c3 l (hf3.keep RFact.kept (Ext0.cells hE)) (iat (fat l k).why n)) ?_   -- outright.go:184 slot 182 := (call {callee=(value (func 18)), args=[(tmp 172), (tmp 173), (tmp 181)], argTypes=[22, 29, 3]})
                          rintro _ w ⟨b2, rfl, hb2, hX⟩
                          replace hE := hE.trans hX
                          refine ⟨_, rfl, ?_⟩
                          refine l_val rfl rfl rfl (r_pick rfl rfl) ?_
                          refine l_nil ?_
                          refine c_cond rfl (fun hb => ?_) (fun hb => ?_)
                          · -- True
                            have hr183 := hb
                            have hc2 : Cst gg l k := Cst.step (mem_on hnlt hor) (hb2.1 hb).2.2.2
                            have hbt := hbk.2 hc2
                            rw [hr146] at hbt
                            cases hbt
                          · -- False
                            have hr183 := hb
                            refine c_skip ?_
                            -- region 30
                            refine c_ops ?_
                            refine l_val rfl rfl rfl (r_move rfl) ?_
                            refine l_val rfl rfl rfl (r_add rfl rfl rfl) ?_
                            refine l_val rfl rfl rfl (r_assign rfl) ?_
                            refine l_nil ?_
                            exact ⟨(fat l k).why.length - (n + 1), by omega, ⟨rfl, rfl, rfl, rfl⟩, n + 1, by omega, rfl, by show Value.int .i64 (IntKind.i64.wrap ((n : Int) + 1)) = _; rw [wrap_succ hnlt hfw.max], hE⟩
                        · -- slot 171 is False
                          have hr171 := hb
                          replace hb := of_decide_eq_false hb
                          refine l_not rfl rfl rfl ?_
                          refine l_not rfl rfl rfl ?_
                          refine l_not rfl rfl rfl ?_
                          refine l_not rfl rfl rfl ?_
                          refine l_not rfl rfl rfl ?_
                          refine l_not rfl rfl rfl ?_
                          refine l_not rfl rfl rfl ?_
                          refine l_not rfl rfl rfl ?_
                          refine l_not rfl rfl rfl ?_
                          refine l_not rfl rfl rfl ?_
                          refine l_not rfl rfl rfl ?_
                          refine l_val rfl rfl rfl (r_pick rfl rfl) ?_
                          refine l_nil ?_
                          refine c_no rfl ?_
                          refine c_skip ?_
                          -- region 30
                          refine c_ops ?_
                          refine l_val rfl rfl rfl (r_move rfl) ?_
                          refine l_val rfl rfl rfl (r_add rfl rfl rfl) ?_
                          refine l_val rfl rfl rfl (r_assign rfl) ?_
                          refine l_nil ?_
                          exact ⟨(fat l k).why.length - (n + 1), by omega, ⟨rfl, rfl, rfl, rfl⟩, n + 1, by omega, rfl, by show Value.int .i64 (IntKind.i64.wrap ((n : Int) + 1)) = _; rw [wrap_succ hnlt hfw.max], hE⟩
                    · -- False
                      have hr154 := hb
                      replace hb := of_decide_eq_false hb
                      refine c_exit ?_
                      -- region 14
                      refine c_ops ?_
                      refine l_val rfl rfl rfl (r_move rfl) ?_
                      refine l_val rfl rfl rfl (r_add rfl rfl rfl) ?_
                      refine l_val rfl rfl rfl (r_assign rfl) ?_
                      refine l_nil ?_
                      exact ⟨l.length - (k + 1), by omega, ⟨rfl, rfl, rfl⟩, k + 1, by omega, rfl, by show Value.int .i64 (IntKind.i64.wrap ((k : Int) + 1)) = _; rw [wrap_succ hklt (by omega)], hE⟩
        · -- False
          have hr57 := hb
          replace hb := of_decide_eq_false hb
          refine c_exit ?_
          refine c_seq ?_
          -- region 33
          refine c_ops ?_
          refine l_by rfl rfl rfl (r_call rfl rfl Tryd.func9 rfl rfl) (works_calls _ (hk0.keep (Ext0.cells (hE0.trans hE)))) ?_   -- outright.go:189 slot 184 := (call {callee=(value (func 9)), args=[], argTypes=[]})
          rintro _ w ⟨rfl, hX⟩
          replace hE := hE.trans hX
          refine ⟨_, rfl, ?_⟩
          refine l_val rfl rfl rfl (r_assign rfl) ?_
          refine l_nil ?_
          refine c_ret ?_
          exact ⟨rfl, hE0.trans hE⟩
end Go.Proofs.YtndophlnapjkhaaDoor.Vc
