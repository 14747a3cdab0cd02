/- Laws and walks for what the last text proves, part 1: FactLooks of the layer 'fact'. Conditions: those of each statement. -/
import Derived.WalkKit
import Derived.OrdersHeld
import Derived.KernelRfl
import Derived.WalkSpells
import Derived.Deep.RegionHeld3
import Derived.Maps.AppendAt
import Derived.Test.YtndophlnapjkhaaGreatDoorProg
set_option linter.unusedVariables false
set_option linter.unusedSimpArgs false
set_option linter.unusedSectionVars false
namespace Go.Proofs.YtndophlnapjkhaaGreatDoor.Vc
abbrev T' : Bool := true
abbrev F' : Bool := false
end Go.Proofs.YtndophlnapjkhaaGreatDoor.Vc
namespace Go.Proofs.YtndophlnapjkhaaGreatDoor.Vc
open Go
/-! ### The temporaries, as a function -/
abbrev Env : Type := Nat → Value
def Env.put (e : Env) (d : Nat) (v : Value) : Env := fun t => if t = d then v else e t
def Env.puto (e : Env) : Option Nat → Value → Env
  | some d, v => e.put d v
  | none, _ => e
def Env.of (l : List Value) : Env := fun t => l.getD t undef
def ev (e : Env) : Operand → Value
  | .tmp t => e t
  | .const v => v
  | .global g => .pointer (some ⟨g, 0, none⟩)
  | .func f => .func (.func f) #[] #[]
structure Agrees (n : Nat) (a : Act) (e : Env) : Prop where
  size : a.tmps.size = n
  defers : a.defers = []
  get : ∀ t, a.tmps.getD t undef = e t
theorem Agrees.eval {n : Nat} {a : Act} {e : Env} (h : Agrees n a e) : a.eval = ev e := by
  funext x
  cases x with
  | tmp t => exact h.get t
  | _ => rfl
theorem Agrees.put {n : Nat} {a : Act} {e : Env} (h : Agrees n a e) (d : Nat) (hd : d < n) (v : Value) : Agrees n (a.put (some d) v) (e.put d v) := by
  refine ⟨by simp [Act.put, h.size], h.defers, fun t => ?_⟩
  have hs := h.size
  have hg := h.get t
  simp only [Act.put, Env.put]
  by_cases ht : t = d
  · subst ht
    rw [if_pos rfl]
    simp [Array.getD_eq_getD_getElem?, hs, hd]
  · rw [if_neg ht, ← hg]
    simp [Array.getD_eq_getD_getElem?, Array.getElem?_setIfInBounds_ne (Ne.symm ht)]
def dstOk (n : Nat) : Option Nat → Bool
  | some d => Nat.blt d n
  | none => true
theorem Agrees.puto {n : Nat} {a : Act} {e : Env} (h : Agrees n a e) (d : Option Nat) (hd : dstOk n d = true) (v : Value) : Agrees n (a.put d v) (e.puto d v) := by
  cases d with
  | none => exact h
  | some d => exact h.put d (by simpa [dstOk, Nat.blt_eq] using hd) v
theorem Env.put_same (e : Env) (t : Nat) : e.put t (e t) = e := by
  funext x
  unfold Env.put
  split
  · rename_i h; rw [h]
  · rfl
/-! ### Code -/
def Post := Exit → Env → World → Prop
def lift (n : Nat) (Q : Post) : Exit → Act → World → Prop := fun x a w => ∃ e, Agrees n a e ∧ Q x e w
def cwp (P : Program) (n : Nat) (c : Code) (Q : Post) (e : Env) (w : World) : Prop := ∀ a, Agrees n a e → c.wp P (lift n Q) a w
@[reducible] def Post.then (K : Env → World → Prop) (Q : Post) : Post
  | .normal, e, w => K e w
  | x, e, w => Q x e w
@[reducible] def Post.block (id : Nat) (Q : Post) : Post
  | .exit i, e, w => if i = id then Q .normal e w else Q (.exit i) e w
  | x, e, w => Q x e w
section
variable {P : Program} {n : Nat} {Q : Post} {e : Env} {w : World}
theorem cwp_mono {c : Code} {Q' : Post} (h : cwp P n c Q e w) (hq : ∀ x e w, Q x e w → Q' x e w) : cwp P n c Q' e w := fun a ha =>
  wp_mono (h a ha) (fun _ _ _ ⟨e, ha, q⟩ => ⟨e, ha, hq _ _ _ q⟩)
theorem c_seq {x y : Code} (h : cwp P n x (Post.then (fun e w => cwp P n y Q e w) Q) e w) : cwp P n (.seq x y) Q e w := by
  intro a ha
  refine wp_seq (wp_mono (h a ha) fun ex a w hq => ?_)
  obtain ⟨e1, ha1, hq⟩ := hq
  cases ex with
  | normal => exact hq a ha1
  | _ => exact ⟨e1, ha1, hq⟩
theorem c_cut {x y : Code} (I : Env → World → Prop) (h : cwp P n x (Post.then I Q) e w) (k : ∀ e w, I e w → cwp P n y Q e w) : cwp P n (.seq x y) Q e w :=
  c_seq (cwp_mono h (fun ex e w hq => by cases ex <;> first | exact k _ _ hq | exact hq))
theorem c_skip (h : Q .normal e w) : cwp P n .skip Q e w := fun _ ha => wp_skip ⟨e, ha, h⟩
theorem c_label {l : Nat} (h : Q .normal e w) : cwp P n (.label l) Q e w := fun _ ha => wp_label ⟨e, ha, h⟩
theorem c_exit {id : Nat} (h : Q (.exit id) e w) : cwp P n (.exit id) Q e w := fun _ ha => wp_exit ⟨e, ha, h⟩
theorem c_ret (h : Q .ret e w) : cwp P n .ret Q e w := fun _ ha => wp_ret ⟨e, ha, h⟩
theorem c_cond {c : Operand} {x y : Code} {b : Bool} (hc : ev e c = .bool b) (ht : b = true → cwp P n x Q e w) (hf : b = false → cwp P n y Q e w) : cwp P n (.cond c x y) Q e w := fun a ha =>
  wp_cond_split (t := b) (by rw [ha.eval]; exact hc) (fun h => ht h a ha) (fun h => hf h a ha)
theorem c_yes {c : Operand} {x y : Code} (hc : ev e c = .bool true) (h : cwp P n x Q e w) : cwp P n (.cond c x y) Q e w := fun a ha =>
  wp_cond_true (by rw [ha.eval]; exact hc) (h a ha)
theorem c_no {c : Operand} {x y : Code} (hc : ev e c = .bool false) (h : cwp P n y Q e w) : cwp P n (.cond c x y) Q e w := fun a ha =>
  wp_cond_false (by rw [ha.eval]; exact hc) (h a ha)
theorem c_block {id : Nat} {c : Code} (h : cwp P n c (Post.block id Q) e w) : cwp P n (.block id c) Q e w := by
  intro a ha
  refine wp_block (wp_mono (h a ha) fun ex a w hq => ?_)
  obtain ⟨e1, ha1, hq⟩ := hq
  cases ex with
  | exit i =>
    simp only [Exit.inBlock, Post.block] at *
    split at hq
    · rename_i hi; rw [if_pos hi]; exact ⟨e1, ha1, hq⟩
    · rename_i hi; rw [if_neg hi]; exact ⟨e1, ha1, hq⟩
  | _ => exact ⟨e1, ha1, hq⟩
def Env.over (mod : List Nat) (e0 e : Env) : Env := fun t => if mod.contains t then e t else e0 t
def Agree (mod : List Nat) (e0 e : Env) : Prop := ∀ t, mod.contains t = false → e t = e0 t
theorem Agree.refl (mod : List Nat) (e0 : Env) : Agree mod e0 e0 := fun _ _ => rfl
theorem Agree.over (mod : List Nat) (e0 e : Env) : Agree mod e0 (Env.over mod e0 e) := fun t ht => by simp only [Env.over, ht]; rfl
theorem Agree.put {mod : List Nat} {e0 e : Env} (h : Agree mod e0 e) (d : Nat) (v : Value) (hd : mod.contains d = true) : Agree mod e0 (e.put d v) := fun t ht => by
  have : t ≠ d := fun hx => by rw [hx, hd] at ht; cases ht
  simp only [Env.put, if_neg this]
  exact h t ht
theorem Agree.puto {mod : List Nat} {e0 e : Env} (h : Agree mod e0 e) (d : Option Nat) (v : Value) (hd : (match d with | some d => mod.contains d | none => true) = true) : Agree mod e0 (e.puto d v) := by
  cases d with
  | none => exact h
  | some d => exact h.put d v hd
theorem Agree.sub {mod mod' : List Nat} {e0 e1 e : Env} (h : Agree mod e0 e1) (hm : (mod'.all fun t => mod.contains t) = true) : Agree mod e0 (Env.over mod' e1 e) := fun t ht => by
  have : mod'.contains t = false := by
    cases hc : mod'.contains t with
    | false => rfl
    | true =>
      have := List.all_eq_true.1 hm t (by simpa using hc)
      rw [ht] at this
      cases this
  simp only [Env.over, this]
  exact h t ht
theorem Agree.eq_over {mod : List Nat} {e0 e : Env} (h : Agree mod e0 e) : Env.over mod e0 e = e := by
  funext t
  unfold Env.over
  split
  · rfl
  · rename_i hc
    exact (h t (by simpa using hc)).symm
theorem c_loop {c : Code} (mod : List Nat) (I : Nat → Env → World → Prop) (m : Nat) (h0 : I m e w) (round : ∀ m e' w, I m (Env.over mod e e') w → cwp P n c (Post.then (fun e' w' => Agree mod e e' ∧ ∃ m', m' < m ∧ I m' e' w') Q) (Env.over mod e e') w) : cwp P n (.loop c) Q e w := by
  intro a ha b k cs
  have key : ∀ m a e' w, Agrees n a e' → Agree mod e e' → I m e' w →
      ∃ x a' w', lift n Q x a' w' ∧ Arrives P (lone (b.at a (.code c :: .inLoop c :: k)) cs w) b k cs x a' w' := by
    intro m
    induction m using Nat.strongRecOn with
    | _ m ih =>
      intro a e' w ha hag hI
      have hov := hag.eq_over
      have hr := round m e' w (by rw [hov]; exact hI)
      rw [hov] at hr
      obtain ⟨x, a₁, w₁, ⟨e₁, ha₁, hq⟩, harr⟩ := hr a ha b (.inLoop c :: k) cs
      cases x with
      | normal =>
        obtain ⟨hag₁, m', hlt, hI₁⟩ := hq
        obtain ⟨x₂, a₂, w₂, hq₂, harr₂⟩ := ih m' hlt a₁ e₁ w₁ ha₁ hag₁ hI₁
        exact ⟨x₂, a₂, w₂, hq₂, .of_steps (Steps.trans harr (.one step_inLoop)) harr₂⟩
      | exit id => exact ⟨_, a₁, w₁, ⟨e₁, ha₁, hq⟩, .pass (x := .inLoop c) rfl (fun _ _ => .inl (by simp)) harr⟩
      | goto l => exact ⟨_, a₁, w₁, ⟨e₁, ha₁, hq⟩, .pass (x := .inLoop c) rfl (fun _ _ => .inl (by simp)) harr⟩
      | ret => exact ⟨_, a₁, w₁, ⟨e₁, ha₁, hq⟩, .pass (x := .inLoop c) rfl (fun _ _ => .inl (by simp)) harr⟩
      | panic ch => exact ⟨_, a₁, w₁, ⟨e₁, ha₁, hq⟩, .pass (x := .inLoop c) rfl (fun _ _ => .inl (by simp)) harr⟩
      | outgrown => exact ⟨_, a₁, w₁, ⟨e₁, ha₁, hq⟩, .pass (x := .inLoop c) rfl (fun _ _ => .inl (by simp)) harr⟩
  obtain ⟨x, a', w', hq, harr⟩ := key m a e w ha (Agree.refl _ _) h0
  exact ⟨x, a', w', hq, .of_steps (.one step_loop) harr⟩
theorem c_merge {x y : Code} (mod : List Nat) (I : Env → World → Prop) (h : cwp P n x (Post.then (fun e' w' => Agree mod e e' ∧ I e' w') Q) e w) (k : ∀ e' w', I (Env.over mod e e') w' → cwp P n y Q (Env.over mod e e') w') : cwp P n (.seq x y) Q e w :=
  c_cut (fun e' w' => Agree mod e e' ∧ I e' w') h (fun e' w' hq => by
    obtain ⟨ha, hI⟩ := hq
    have := k e' w' (by rw [ha.eq_over]; exact hI)
    rwa [ha.eq_over] at this)
theorem c_know {c : Code} {t : Nat} {v : Value} (h : e t = v) (k : cwp P n c Q (e.put t v) w) : cwp P n c Q e w := by
  rw [← h, Env.put_same] at k
  exact k
/-! ### A row of operations in the text's order -/
def lwp (P : Program) (n : Nat) (ops : Array Oper) (Q : Post) (l : List Oper) (e : Env) (w : World) : Prop := ∀ a, Agrees n a e → wpList P ops (lift n Q) l a w
theorem c_ops {id : Nat} {l : List Oper} (h : lwp P n l.toArray Q l e w) : cwp P n (.region id l.toArray false) Q e w := fun a ha => wp_region_lit (h a ha)
def yieldedE (ops : Array Oper) (e : Env) (j : Nat) : Option Bool :=
  match (ops[j]?).bind (·.dst) with
  | some t => match e t with | .bool b => some b | _ => none
  | none => none
theorem yielded_eq {ops : Array Oper} {a : Act} (h : Agrees n a e) (hu : ∀ b, undef ≠ .bool b) (j : Nat) : yielded ops a.tmps j = yieldedE ops e j := by
  unfold yielded yieldedE
  cases hd : (ops[j]?).bind (·.dst) with
  | none => rfl
  | some t =>
    have hg := h.get t
    simp only [Option.bind_some]
    rw [← hg]
    cases ht : a.tmps[t]? with
    | none =>
      have : a.tmps.getD t undef = undef := by simp [Array.getD_eq_getD_getElem?, ht]
      rw [this]
      cases hx : undef with
      | bool b => exact absurd hx (hu b)
      | _ => rfl
    | some v =>
      have : a.tmps.getD t undef = v := by simp [Array.getD_eq_getD_getElem?, ht]
      rw [this]
      cases v <;> rfl
theorem undef_ne (b : Bool) : undef ≠ .bool b := by simp [undef]
theorem wanted_eq {ops : Array Oper} {a : Act} (h : Agrees n a e) (o : Oper) : Region.wanted o (yielded ops a.tmps) = Region.wanted o (yieldedE ops e) := by
  have : yielded ops a.tmps = yieldedE ops e := funext (yielded_eq h undef_ne)
  rw [this]
section
variable {ops : Array Oper} {rest : List Oper} {o : Oper} {w' : World}
theorem l_nil (h : Q .normal e w) : lwp P n ops Q [] e w := fun _ ha => wpList_nil ⟨e, ha, h⟩
theorem l_val {v : Value} {t : Nat} (hd : o.dst = some t) (ht : Nat.blt t n = true) (hw : Region.wanted o (yieldedE ops e) = true) (h : (execOp (ev e) o).run P w = .ok (.value v) w') (k : lwp P n ops Q rest (e.put t v) w') : lwp P n ops Q (o :: rest) e w := by
  intro a ha
  refine wpList_step fun K hK => ?_
  rw [if_pos (by rw [wanted_eq ha]; exact hw)]
  simp only [Oper.wp, ha.eval, h, Oper.upon, hd]
  exact hK _ _ (k _ (ha.put _ (Nat.le_of_ble_eq_true ht) v))
theorem l_do (hd : o.dst = none) (hw : Region.wanted o (yieldedE ops e) = true) (h : (execOp (ev e) o).run P w = .ok .skip w') (k : lwp P n ops Q rest e w') : lwp P n ops Q (o :: rest) e w := by
  intro a ha
  refine wpList_step fun K hK => ?_
  rw [if_pos (by rw [wanted_eq ha]; exact hw)]
  simp only [Oper.wp, ha.eval, h, Oper.upon, hd]
  exact hK _ _ (k _ ha)
theorem l_not {t : Nat} (hd : o.dst = some t) (ht : Nat.blt t n = true) (hw : Region.wanted o (yieldedE ops e) = false) (k : lwp P n ops Q rest (e.put t undef) w) : lwp P n ops Q (o :: rest) e w := by
  intro a ha
  refine wpList_step fun K hK => ?_
  rw [if_neg (by rw [wanted_eq ha, hw]; simp), hd]
  exact hK _ _ (k _ (ha.put _ (Nat.le_of_ble_eq_true ht) undef))
theorem l_call {f : FuncId} {args : Array Value} {t : Nat} (hd : o.dst = some t) (ht : Nat.blt t n = true) (hw : Region.wanted o (yieldedE ops e) = true) (h : (execOp (ev e) o).run P w = .ok (.enter f args) w)
    (k : Calls P f args w fun en w' => ∃ v, en = .returned v ∧ lwp P n ops Q rest (e.put t v) w') : lwp P n ops Q (o :: rest) e w := by
  intro a ha
  refine wpList_step fun K hK => ?_
  rw [if_pos (by rw [wanted_eq ha]; exact hw)]
  simp only [Oper.wp, ha.eval, h, Oper.upon, hd]
  refine Calls.mono k fun en w' he => ?_
  obtain ⟨v, rfl, hk⟩ := he
  exact hK _ _ (hk _ (ha.put _ (Nat.le_of_ble_eq_true ht) v))
theorem l_case (t : Nat) {b : Bool} {l : List Oper} (hb : e t = .bool b) (ht : b = true → lwp P n ops Q l (e.put t (.bool true)) w) (hf : b = false → lwp P n ops Q l (e.put t (.bool false)) w) : lwp P n ops Q l e w := by
  have hs := Env.put_same e t
  rw [hb] at hs
  cases b with
  | true => have := ht rfl; rwa [hs] at this
  | false => have := hf rfl; rwa [hs] at this
theorem l_know {t : Nat} {v : Value} {l : List Oper} (h : e t = v) (k : lwp P n ops Q l (e.put t v) w) : lwp P n ops Q l e w := by
  rw [← h, Env.put_same] at k
  exact k
end
/-! ### A row of operations in whatever order its edges allow; S: what holds of the world at every moment -/
def hwp (P : Program) (n : Nat) (ops : Array Oper) (Q : Post) (S : World → Prop) (fuel : Nat) (listed : Array Bool) (e : Env) (w : World) : Prop :=
  ∀ a, Agrees n a e → wpAnyH P .any ops (lift n Q) S fuel listed a w
section
variable {ops : Array Oper} {S : World → Prop} {listed : Array Bool} {fuel : Nat}
theorem c_any {id : Nat} (S : World → Prop) (hm : P.follows .mixedOrders = true) (h : hwp P n ops Q S ops.size (Array.replicate ops.size false) e w.drew) : cwp P n (.region id ops true) Q e w := fun a ha =>
  wp_region_held (S := S) hm (h a ha)
theorem h_done (hr : Region.ready .any ops listed = []) (h : Q .normal e w) : hwp P n ops Q S fuel listed e w := fun _ ha => wpAnyH_done hr ⟨e, ha, h⟩ _
def takeB (n : Nat) (ops : Array Oper) (listed : Array Bool) (i t : Nat) : Bool :=
  Region.noSelect ops && Region.free .any ops listed i && (Region.ready .any ops listed).contains i && Nat.blt t n
theorem takeB_spec {i t : Nat} (hb : takeB n ops listed i t = true) : Region.noSelect ops = true ∧ Region.free .any ops listed i = true ∧ (Region.ready .any ops listed).contains i = true ∧ Nat.blt t n = true := by
  unfold takeB at hb
  simp only [Bool.and_eq_true] at hb
  exact ⟨hb.1.1.1, hb.1.1.2, hb.1.2, hb.2⟩
theorem h_t (i : Nat) {o : Oper} {t : Nat} {v : Value} (hi : ops[i]? = some o) (hd : o.dst = some t) (hb : takeB n ops listed i t = true)
    (hQ : ∀ c e w, ¬ Q (.panic c) e w) (hS : S w) (hw : Region.wanted o (yieldedE ops e) = true) (hv : ∀ W, S W → (execOp (ev e) o).run P W = .ok (.value v) W)
    (k : hwp P n ops Q S fuel (listed.setIfInBounds i true) (e.put t v) w) : hwp P n ops Q S (fuel + 1) listed e w := by
  obtain ⟨h1, h2, h3, h4⟩ := takeB_spec hb
  intro a ha
  have hk := k _ (ha.put t (Nat.le_of_ble_eq_true h4) v)
  rw [← hd] at hk
  refine wpAnyH_take hi h1 h2 h3 (fun c a w hq => ?_) (.inl ⟨by rw [wanted_eq ha]; exact hw, fun W hW => by rw [ha.eval]; exact hv W hW⟩) hS hk
  obtain ⟨e', _, hq⟩ := hq
  exact absurd hq (hQ c e' w)
theorem h_n (i : Nat) {o : Oper} {t : Nat} (hi : ops[i]? = some o) (hd : o.dst = some t) (hb : takeB n ops listed i t = true)
    (hQ : ∀ c e w, ¬ Q (.panic c) e w) (hS : S w) (hw : Region.wanted o (yieldedE ops e) = false)
    (k : hwp P n ops Q S fuel (listed.setIfInBounds i true) (e.put t undef) w) : hwp P n ops Q S (fuel + 1) listed e w := by
  obtain ⟨h1, h2, h3, h4⟩ := takeB_spec hb
  intro a ha
  have hk := k _ (ha.put t (Nat.le_of_ble_eq_true h4) undef)
  rw [← hd] at hk
  refine wpAnyH_take hi h1 h2 h3 (fun c a w hq => ?_) (.inr ⟨by rw [wanted_eq ha]; exact hw, rfl⟩) hS hk
  obtain ⟨e', _, hq⟩ := hq
  exact absurd hq (hQ c e' w)
def oneB (n : Nat) (ops : Array Oper) (listed : Array Bool) (i t : Nat) : Bool := (Region.ready .any ops listed) == [i] && Nat.blt t n
theorem oneB_spec {i t : Nat} (hb : oneB n ops listed i t = true) : Region.ready .any ops listed = [i] ∧ t < n := by
  unfold oneB at hb
  simp only [Bool.and_eq_true, beq_iff_eq] at hb
  exact ⟨hb.1, Nat.le_of_ble_eq_true hb.2⟩
theorem h_one (i : Nat) {o : Oper} {t : Nat} {v : Value} {w' : World} (hi : ops[i]? = some o) (hd : o.dst = some t) (hb : oneB n ops listed i t = true) (hw : Region.wanted o (yieldedE ops e) = true)
    (h : (execOp (ev e) o).run P w = .ok (.value v) w') (hS : S w') (k : hwp P n ops Q S fuel (listed.setIfInBounds i true) (e.put t v) w') : hwp P n ops Q S (fuel + 1) listed e w := by
  obtain ⟨hr, ht⟩ := oneB_spec hb
  intro a ha
  refine wpAnyH_all hr (by simp) fun j hj => ?_
  rw [List.mem_singleton] at hj
  subst hj
  unfold wpOp
  simp only [hi]
  rw [if_pos (by rw [wanted_eq ha]; exact hw)]
  refine .inl ?_
  simp only [Oper.wp, ha.eval, h, Oper.upon, hd]
  exact ⟨hS, k _ (ha.put t ht v)⟩
theorem h_one_do (i : Nat) {o : Oper} {w' : World} (hi : ops[i]? = some o) (hd : o.dst = none) (hb : oneB (n + 1) ops listed i 0 = true) (hw : Region.wanted o (yieldedE ops e) = true)
    (h : (execOp (ev e) o).run P w = .ok .skip w') (hS : S w') (k : hwp P n ops Q S fuel (listed.setIfInBounds i true) e w') : hwp P n ops Q S (fuel + 1) listed e w := by
  obtain ⟨hr, _⟩ := oneB_spec hb
  intro a ha
  refine wpAnyH_all hr (by simp) fun j hj => ?_
  rw [List.mem_singleton] at hj
  subst hj
  unfold wpOp
  simp only [hi]
  rw [if_pos (by rw [wanted_eq ha]; exact hw)]
  refine .inl ?_
  simp only [Oper.wp, ha.eval, h, Oper.upon, hd]
  exact ⟨hS, k _ ha⟩
theorem h_one_call (i : Nat) {o : Oper} {t : Nat} {f : FuncId} {args : Array Value} (hi : ops[i]? = some o) (hd : o.dst = some t) (hb : oneB n ops listed i t = true) (hw : Region.wanted o (yieldedE ops e) = true)
    (h : (execOp (ev e) o).run P w = .ok (.enter f args) w)
    (k : Calls P f args w fun en w' => ∃ v, en = .returned v ∧ S w' ∧ hwp P n ops Q S fuel (listed.setIfInBounds i true) (e.put t v) w') : hwp P n ops Q S (fuel + 1) listed e w := by
  obtain ⟨hr, ht⟩ := oneB_spec hb
  intro a ha
  refine wpAnyH_all hr (by simp) fun j hj => ?_
  rw [List.mem_singleton] at hj
  subst hj
  unfold wpOp
  simp only [hi]
  rw [if_pos (by rw [wanted_eq ha]; exact hw)]
  refine .inl ?_
  simp only [Oper.wp, ha.eval, h, Oper.upon, hd]
  refine Calls.mono k fun en w' he => ?_
  obtain ⟨v, rfl, hs, hk⟩ := he
  exact ⟨hs, hk _ (ha.put t ht v)⟩
theorem h_case (t : Nat) {b : Bool} (hb : e t = .bool b) (ht : b = true → hwp P n ops Q S fuel listed (e.put t (.bool true)) w) (hf : b = false → hwp P n ops Q S fuel listed (e.put t (.bool false)) w) : hwp P n ops Q S fuel listed e w := by
  have hs := Env.put_same e t
  rw [hb] at hs
  cases b with
  | true => have := ht rfl; rwa [hs] at this
  | false => have := hf rfl; rwa [hs] at this
end
/-! ### A call -/
def outv : List Nat → Env → Value
  | [t], e => e t
  | l, e => .tuple (l.map e).toArray
@[reducible] def Back (ts : List Nat) (R : Value → World → Prop) : Post
  | .normal, e, w | .ret, e, w => R (outv ts e) w
  | _, _, _ => False
theorem results0 {fn : Func} (hr : fn.results = (([] : List Nat).map ResultVar.tmp).toArray) {a : Act} : (results fn a.tmps).run P w = .ok (outv [] e) w := by
  simp [results, hr, outv]
theorem results1 {fn : Func} {t : Nat} (hr : fn.results = ([t].map ResultVar.tmp).toArray) {a : Act} (ha : Agrees n a e) : (results fn a.tmps).run P w = .ok (outv [t] e) w := by
  have h1 := ha.get t
  simp [results, hr, outv, ← h1]
theorem results2 {fn : Func} {t u : Nat} (hr : fn.results = ([t, u].map ResultVar.tmp).toArray) {a : Act} (ha : Agrees n a e) : (results fn a.tmps).run P w = .ok (outv [t, u] e) w := by
  have h1 := ha.get t
  have h2 := ha.get u
  simp [results, hr, outv, ← h1, ← h2]
theorem results3 {fn : Func} {t u v : Nat} (hr : fn.results = ([t, u, v].map ResultVar.tmp).toArray) {a : Act} (ha : Agrees n a e) : (results fn a.tmps).run P w = .ok (outv [t, u, v] e) w := by
  have h1 := ha.get t
  have h2 := ha.get u
  have h3 := ha.get v
  simp [results, hr, outv, ← h1, ← h2, ← h3]
theorem results4 {fn : Func} {t u v x : Nat} (hr : fn.results = ([t, u, v, x].map ResultVar.tmp).toArray) {a : Act} (ha : Agrees n a e) : (results fn a.tmps).run P w = .ok (outv [t, u, v, x] e) w := by
  have h1 := ha.get t
  have h2 := ha.get u
  have h3 := ha.get v
  have h4 := ha.get x
  simp [results, hr, outv, ← h1, ← h2, ← h3, ← h4]
theorem results_eq {fn : Func} (ts : List Nat) (hl : Nat.blt ts.length 5 = true) (hr : fn.results = (ts.map ResultVar.tmp).toArray) {a : Act} (ha : Agrees n a e) : (results fn a.tmps).run P w = .ok (outv ts e) w := by
  match ts, hl, hr with
  | [], _, hr => exact results0 hr
  | [_], _, hr => exact results1 hr ha
  | [_, _], _, hr => exact results2 hr ha
  | [_, _, _], _, hr => exact results3 hr ha
  | [_, _, _, _], _, hr => exact results4 hr ha
  | _ :: _ :: _ :: _ :: _ :: _, hl, _ => simp [Nat.blt] at hl
theorem agrees_start {n : Nat} (args : List Value) (h : args.length ≤ n) : Agrees n { tmps := args.toArray ++ Array.replicate (n - args.toArray.size) undef, defers := [] } (Env.of args) := by
  refine ⟨by simp; omega, rfl, fun t => ?_⟩
  unfold Env.of
  rcases Nat.lt_or_ge t args.length with ht | ht
  · simp [Array.getD_eq_getD_getElem?, Array.getElem?_append, ht, List.getD_eq_getElem?_getD]
  · simp only [Array.getD_eq_getD_getElem?, List.getD_eq_getElem?_getD, Array.getElem?_append, List.size_toArray, Nat.not_lt.2 ht, if_false, List.getElem?_eq_none ht, Option.getD_none]
    rw [Array.getElem?_replicate]
    split <;> rfl
theorem calls {f : FuncId} {fn : Func} {c : Code} (ts : List Nat) {args : List Value} {R : Ending → World → Prop} (hf : P.funcs[f]? = some fn) (hb : fn.body = some c) (hn : Nat.ble args.length fn.ntmps = true) (hl : Nat.blt ts.length 5 = true)
    (hr : fn.results = (ts.map ResultVar.tmp).toArray) (h : cwp P fn.ntmps c (Back ts fun v w' => R (.returned v) w') (Env.of args) w) : Calls P f args.toArray w R := by
  refine calls_of_wp hf hb ?_
  refine wp_mono (h _ (agrees_start args (Nat.le_of_ble_eq_true hn))) fun x a w' hq => ?_
  obtain ⟨e, ha, hq⟩ := hq
  cases x with
  | normal => exact ⟨ha.defers, _, results_eq ts hl hr ha, hq⟩
  | ret => exact ⟨ha.defers, _, results_eq ts hl hr ha, hq⟩
  | _ => exact hq.elim
theorem ret_bool {v : Value} {b b' : Bool} (h : v = .bool b) (hb : b = b') : Ending.returned v = .returned (.bool b') := by rw [h, hb]
theorem ret_int {v : Value} {k : IntKind} {b b' : Int} (h : v = .int k b) (hb : b = b') : Ending.returned v = .returned (.int k b') := by rw [h, hb]
end
end Go.Proofs.YtndophlnapjkhaaGreatDoor.Vc
namespace Go.Proofs.YtndophlnapjkhaaGreatDoor.Vc
open Go Go.RowKit
set_option linter.unusedSimpArgs false
section
variable {P : Program} {w : World} {ρ : Operand → Value} {o : Oper}
/-! ### Values alone -/
theorem r_move {x : Operand} (h : o.op = .move x) : (execOp ρ o).run P w = .ok (.value (ρ x)) w := by simp [execOp, h]
theorem r_assign {x : Operand} (h : o.op = .assign x) : (execOp ρ o).run P w = .ok (.value (ρ x)) w := by simp [execOp, h]
theorem r_pick {c x y : Operand} {b : Bool} (h : o.op = .pick c x y) (hc : ρ c = .bool b) : (execOp ρ o).run P w = .ok (.value (if b then ρ x else ρ y)) w := by simp [execOp, h, hc, asBool]
theorem r_not {x : Operand} {t : TypeId} {b : Bool} (h : o.op = .unOp .not t x) (hx : ρ x = .bool b) : (execOp ρ o).run P w = .ok (.value (.bool (!b))) w := by simp [execOp, h, hx, Op.unary]
theorem r_nilCheck {x : Operand} {a : Addr} (h : o.op = .nilCheck x) (hx : ρ x = .pointer (some a)) : (execOp ρ o).run P w = .ok (.value (.pointer (some a))) w := by simp [execOp, h, hx]
theorem r_extract {x : Operand} {i : Nat} {vs : Array Value} {v : Value} (h : o.op = .extract x i) (hx : ρ x = .tuple vs) (hv : vs[i]? = some v) : (execOp ρ o).run P w = .ok (.value v) w := by simp [execOp, h, hx, Instr.extract, hv]
theorem r_makeFunc {f : Fn} {fs cs : Array Operand} (h : o.op = .makeFunc f fs cs) : (execOp ρ o).run P w = .ok (.value (.func f (fs.toList.map ρ).toArray (cs.toList.map ρ).toArray)) w := by
  have hm : ∀ xs : Array Operand, (xs.toList.map ρ).toArray = xs.map ρ := fun xs => by apply Array.ext'; simp
  rw [hm, hm]
  simp [execOp, h, Instr.makeFunc]
/-! ### Whole numbers -/
section
variable {x y : Operand} {t t' : TypeId} {k : IntKind} {a b : Int}
theorem r_add (h : o.op = .binOp .add t x y t') (hx : ρ x = .int k a) (hy : ρ y = .int k b) : (execOp ρ o).run P w = .ok (.value (.int k (k.wrap (a + b)))) w := by simp [execOp, h, hx, hy, eqGuard, binOp, Op.intArith]
theorem r_sub (h : o.op = .binOp .sub t x y t') (hx : ρ x = .int k a) (hy : ρ y = .int k b) : (execOp ρ o).run P w = .ok (.value (.int k (k.wrap (a - b)))) w := by simp [execOp, h, hx, hy, eqGuard, binOp, Op.intArith]
theorem r_eql (h : o.op = .binOp .eql t x y t') (hx : ρ x = .int k a) (hy : ρ y = .int k b) : (execOp ρ o).run P w = .ok (.value (.bool (decide (a = b)))) w := by
  have : (a == b) = decide (a = b) := rfl
  simp [execOp, h, hx, hy, eqGuard, binOp, Op.intCmp, this]
theorem r_neq (h : o.op = .binOp .neq t x y t') (hx : ρ x = .int k a) (hy : ρ y = .int k b) : (execOp ρ o).run P w = .ok (.value (.bool (!decide (a = b)))) w := by
  have : (a != b) = !decide (a = b) := rfl
  simp [execOp, h, hx, hy, eqGuard, binOp, Op.intCmp, this]
theorem r_lss (h : o.op = .binOp .lss t x y t') (hx : ρ x = .int k a) (hy : ρ y = .int k b) : (execOp ρ o).run P w = .ok (.value (.bool (decide (a < b)))) w := by simp [execOp, h, hx, hy, eqGuard, binOp, Op.intCmp]
theorem r_leq (h : o.op = .binOp .leq t x y t') (hx : ρ x = .int k a) (hy : ρ y = .int k b) : (execOp ρ o).run P w = .ok (.value (.bool (decide (a ≤ b)))) w := by simp [execOp, h, hx, hy, eqGuard, binOp, Op.intCmp]
theorem r_gtr (h : o.op = .binOp .gtr t x y t') (hx : ρ x = .int k a) (hy : ρ y = .int k b) : (execOp ρ o).run P w = .ok (.value (.bool (decide (b < a)))) w := by simp [execOp, h, hx, hy, eqGuard, binOp, Op.intCmp]
theorem r_geq (h : o.op = .binOp .geq t x y t') (hx : ρ x = .int k a) (hy : ρ y = .int k b) : (execOp ρ o).run P w = .ok (.value (.bool (decide (b ≤ a)))) w := by simp [execOp, h, hx, hy, eqGuard, binOp, Op.intCmp]
end
/-! ### Strings, compared -/
theorem str_beq (a b : ByteArray) : (a.toList == b.toList) = decide (a = b) := by
  rw [Bool.eq_iff_iff, beq_iff_eq, decide_eq_true_iff]
  constructor
  · intro h
    rw [ByteArray.toList_eq, ByteArray.toList_eq] at h
    exact ByteArray.ext (Array.toList_inj.1 h)
  · rintro rfl; rfl
section
variable {x y : Operand} {t t' : TypeId} {a b : ByteArray}
theorem r_seql (h : o.op = .binOp .eql t x y t') (hx : ρ x = .string a) (hy : ρ y = .string b) : (execOp ρ o).run P w = .ok (.value (.bool (decide (a = b)))) w := by
  simp only [execOp, h, hx, hy, eqGuard, binOp, Op.stringOp, str_beq]; rfl
theorem r_sneq (h : o.op = .binOp .neq t x y t') (hx : ρ x = .string a) (hy : ρ y = .string b) : (execOp ρ o).run P w = .ok (.value (.bool (!decide (a = b)))) w := by
  simp only [execOp, h, hx, hy, eqGuard, binOp, Op.stringOp, str_beq]; rfl
theorem r_slss (h : o.op = .binOp .lss t x y t') (hx : ρ x = .string a) (hy : ρ y = .string b) : (execOp ρ o).run P w = .ok (.value (.bool (Op.bytesLess a.toList b.toList))) w := by
  simp only [execOp, h, hx, hy, eqGuard, binOp, Op.stringOp]; rfl
theorem r_sgtr (h : o.op = .binOp .gtr t x y t') (hx : ρ x = .string a) (hy : ρ y = .string b) : (execOp ρ o).run P w = .ok (.value (.bool (!(Op.bytesLess a.toList b.toList || decide (a = b))))) w := by
  simp only [execOp, h, hx, hy, eqGuard, binOp, Op.stringOp, str_beq]; rfl
theorem r_sgeq (h : o.op = .binOp .geq t x y t') (hx : ρ x = .string a) (hy : ρ y = .string b) : (execOp ρ o).run P w = .ok (.value (.bool (!Op.bytesLess a.toList b.toList))) w := by
  simp only [execOp, h, hx, hy, eqGuard, binOp, Op.stringOp]; rfl
end
/-! ### The world: what has not turned; what certain blocks are -/
structure Ext (S : Nat → Prop) (w w' : World) : Prop where
  os : w'.os = w.os
  tape : w'.tape = w.tape
  output : w'.output = w.output
  size : w.heap.size ≤ w'.heap.size
  block : ∀ k, k < w.heap.size → ¬ S k → w'.heap[k]? = w.heap[k]?
abbrev Ext0 : World → World → Prop := Ext fun _ => False
section
variable {S T : Nat → Prop} {w w1 w2 : World}
theorem Ext.refl (S : Nat → Prop) (w : World) : Ext S w w := ⟨rfl, rfl, rfl, Nat.le_refl _, fun _ _ _ => rfl⟩
theorem Ext.trans (h : Ext S w w1) (k : Ext S w1 w2) : Ext S w w2 := ⟨k.os.trans h.os, k.tape.trans h.tape, k.output.trans h.output, Nat.le_trans h.size k.size, fun i hi hs => (k.block i (Nat.lt_of_lt_of_le hi h.size) hs).trans (h.block i hi hs)⟩
theorem Ext.mono (h : Ext S w w1) (hs : ∀ k, S k → T k) : Ext T w w1 := ⟨h.os, h.tape, h.output, h.size, fun i hi ht => h.block i hi (fun hk => ht (hs i hk))⟩
theorem Ext.step (h : Ext S w w1) (k : Ext T w1 w2) (hs : ∀ i, i < w.heap.size → T i → S i) : Ext S w w2 := ⟨k.os.trans h.os, k.tape.trans h.tape, k.output.trans h.output, Nat.le_trans h.size k.size, fun i hi hn => (k.block i (Nat.lt_of_lt_of_le hi h.size) (fun ht => hn (hs i hi ht))).trans (h.block i hi hn)⟩
theorem Ext.step0 (h : Ext S w w1) (k : Ext0 w1 w2) : Ext S w w2 := h.step k (fun _ _ hf => hf.elim)
theorem Ext.alloc (h : Ext S w w1) (o : Obj) : Ext S w (w1.alloc o) := ⟨h.os, h.tape, h.output, by have := h.size; simp; omega, fun k hk hs => by rw [Below.heap_alloc _ _ _ (Nat.lt_of_lt_of_le hk h.size)]; exact h.block k hk hs⟩
theorem Ext.drew (h : Ext S w w1) : Ext S w w1.drew := ⟨h.os, h.tape, h.output, h.size, h.block⟩
theorem Ext.set (h : Ext S w w1) (b off : Nat) (v : Value) (hb : b < w.heap.size → S b) : Ext S w (w1.setCell ⟨b, off, none⟩ v) := ⟨h.os, h.tape, h.output, by have := h.size; simpa [World.setCell] using this, fun k hk hs => by
  rw [Below.heap_setCell _ _ _ _ (fun e => hs (by rw [e]; exact hb (by rw [← show k = b from e]; exact hk)))]; exact h.block k hk hs⟩
theorem Ext.below (h : Ext S w w1) (hs : ∀ k, S k → w.heap.size ≤ k) : Below w.heap.size w w1 := ⟨h.os, h.tape, h.output, h.size, fun k hk => h.block k hk (fun hS => by have := hs k hS; omega)⟩
theorem Ext.below0 (h : Ext0 w w1) : Below w.heap.size w w1 := h.below (fun _ hf => hf.elim)
theorem Ext.cell (h : Ext S w w1) {a : Addr} {v : Value} (hc : w.cell? a = some v) (hs : ¬ S a.block) : w1.cell? a = some v := by
  rw [World.cell?_of_block (w := w) (h.block a.block (World.block_lt_of_cell? w a hc) hs)]; exact hc
theorem Ext.cell_map (h : Ext S w w1) (hs : ∀ k, S k → ∀ c t f, w.heap[k]? ≠ some (.cells c t f)) {a : Addr} {v : Value} (hc : w.cell? a = some v) : w1.cell? a = some v := by
  refine h.cell hc fun hk => ?_
  unfold World.cell? at hc
  split at hc
  · rename_i c t f hb
    exact hs _ hk _ _ _ hb
  · cases hc
end
inductive Res where
  | blk (b : Nat) (o : Obj)
  | row (base e sz : Nat) (v : Value) (n : Nat) (xs : List Value)
def Res.foot : Res → Option Nat
  | .blk b _ => some b
  | .row _ _ _ v _ _ => v.ownBlock
def Res.holds (w : World) : Res → Prop
  | .blk b o => w.heap[b]? = some o
  | .row base e sz v n xs => w.ownsRow base e sz v n xs
def Has (w : World) : List Res → Prop
  | [] => True
  | r :: L => r.holds w ∧ (∀ q ∈ L, ∀ b, r.foot = some b → q.foot ≠ some b) ∧ Has w L
section
variable {S : Nat → Prop} {w w1 : World} {L : List Res}
theorem Has.mem : ∀ {L : List Res}, Has w L → ∀ r ∈ L, r.holds w
  | _ :: _, h, r, hr => by
    rcases List.mem_cons.1 hr with rfl | hr
    · exact h.1
    · exact Has.mem h.2.2 r hr
theorem Has.get (h : Has w L) (i : Nat) {b : Nat} {o : Obj} (hi : L[i]? = some (.blk b o)) : w.heap[b]? = some o := h.mem (.blk b o) (List.mem_of_getElem? hi)
theorem Has.row (h : Has w L) (i : Nat) {base e sz n : Nat} {v : Value} {xs : List Value} (hi : L[i]? = some (.row base e sz v n xs)) : w.ownsRow base e sz v n xs := h.mem (.row base e sz v n xs) (List.mem_of_getElem? hi)
theorem ownsRow_lt {base e sz n : Nat} {v : Value} {xs : List Value} (h : w.ownsRow base e sz v n xs) {b : Nat} (hb : v.ownBlock = some b) : b < w.heap.size ∧ base ≤ b := by
  rcases h.2 with ⟨rfl, _⟩ | ⟨g, cap, cur, rfl, hg, hh, _⟩
  · simp [Value.ownBlock] at hb
  · have : g = b := by simpa [Value.ownBlock] using hb
    subst this
    exact ⟨(Array.getElem?_eq_some_iff.1 hh).1, hg⟩
theorem ownsRow_keep {base e sz n : Nat} {v : Value} {xs : List Value} (h : w.ownsRow base e sz v n xs) (hk : ∀ b, v.ownBlock = some b → w1.heap[b]? = w.heap[b]?) : w1.ownsRow base e sz v n xs := by
  obtain ⟨h1, h2⟩ := h
  refine ⟨h1, ?_⟩
  rcases h2 with h2 | ⟨g, cap, cur, rfl, hg, hh, r⟩
  · exact .inl h2
  · exact .inr ⟨g, cap, cur, rfl, hg, (hk g (by simp [Value.ownBlock])).trans hh, r⟩
theorem Res.lt {r : Res} (h : r.holds w) {b : Nat} (hb : r.foot = some b) : b < w.heap.size := by
  cases r with
  | blk c o =>
    have : c = b := by simpa [Res.foot] using hb
    subst this
    exact (Array.getElem?_eq_some_iff.1 (show w.heap[c]? = some o from h)).1
  | row base e sz v n xs => exact (ownsRow_lt (show w.ownsRow base e sz v n xs from h) hb).1
theorem Res.keep {r : Res} (h : r.holds w) (hk : ∀ b, r.foot = some b → w1.heap[b]? = w.heap[b]?) : r.holds w1 := by
  cases r with
  | blk c o => exact (hk c rfl).trans h
  | row base e sz v n xs => exact ownsRow_keep h hk
theorem Has.keep : ∀ {L : List Res}, Has w L → (∀ r ∈ L, ∀ b, r.foot = some b → w1.heap[b]? = w.heap[b]?) → Has w1 L
  | [], _, _ => trivial
  | r :: _, h, hk => ⟨Res.keep h.1 (hk r List.mem_cons_self), h.2.1, Has.keep h.2.2 (fun q hq => hk q (List.mem_cons_of_mem _ hq))⟩
theorem Has.lt (h : Has w L) : ∀ r ∈ L, ∀ b, r.foot = some b → b < w.heap.size := fun r hr _ hb => Res.lt (h.mem r hr) hb
theorem Has.ext (h : Has w L) (he : Ext S w w1) (hs : ∀ r ∈ L, ∀ b, r.foot = some b → ¬ S b) : Has w1 L := h.keep fun r hr b hb => he.block b (h.lt r hr b hb) (hs r hr b hb)
theorem Has.ext0 (h : Has w L) (he : Ext0 w w1) : Has w1 L := h.ext he (fun _ _ _ _ hf => hf)
theorem Has.drew (h : Has w L) : Has w.drew L := h.keep (fun _ _ _ _ => rfl)
theorem Has.cons (h : Has w L) (he : Ext0 w w1) {r : Res} (hr : r.holds w1) (hn : ∀ b, r.foot = some b → w.heap.size ≤ b) : Has w1 (r :: L) :=
  ⟨hr, fun q hq b hb hqb => by have := h.lt q hq b hqb; have := hn b hb; omega, h.ext0 he⟩
theorem Has.alloc (h : Has w L) (o : Obj) : Has (w.alloc o) (.blk w.heap.size o :: L) :=
  h.cons ((Ext.refl _ w).alloc o) (r := .blk w.heap.size o) (MapKept.heap_alloc w o).1 (fun b hb => by simp [Res.foot] at hb; omega)
theorem Has.nilRow (h : Has w L) (base e sz : Nat) : Has w (.row base e sz (.slice none 0 0) 0 [] :: L) :=
  ⟨⟨by simp, .inl ⟨rfl, rfl⟩⟩, fun q _ b hb => by simp [Res.foot, Value.ownBlock] at hb, h⟩
theorem Has.setAt : ∀ {L : List Res} (_ : Has w L) (i : Nat) {r r' : Res}, L[i]? = some r → r'.holds w1 → (∀ b, r'.foot = some b → r.foot = some b ∨ w.heap.size ≤ b) → (∀ k, k < w.heap.size → r.foot ≠ some k → w1.heap[k]? = w.heap[k]?) → Has w1 (L.set i r')
  | p :: L, h, 0, r, r', hi, h1, hf, hk => by
    have hp : p = r := by simpa using hi
    subst hp
    refine ⟨h1, fun q hq b hb hqb => ?_, h.2.2.keep fun q hq b hqb => hk b (h.2.2.lt q hq b hqb) (fun e => h.2.1 q hq b e hqb)⟩
    rcases hf b hb with h2 | h2
    · exact h.2.1 q hq b h2 hqb
    · have := h.2.2.lt q hq b hqb
      omega
  | p :: L, h, i + 1, r, r', hi, h1, hf, hk => by
    have hi' : L[i]? = some r := by simpa using hi
    have hr : r ∈ L := List.mem_of_getElem? hi'
    refine ⟨Res.keep h.1 fun b hb => hk b (Res.lt h.1 hb) (fun e => h.2.1 r hr b hb e), fun q hq b hb hqb => ?_, Has.setAt h.2.2 i hi' h1 hf hk⟩
    rcases List.mem_or_eq_of_mem_set hq with hq | rfl
    · exact h.2.1 q hq b hb hqb
    · rcases hf b hqb with h2 | h2
      · exact h.2.1 r hr b hb h2
      · have := Res.lt h.1 hb
        omega
theorem Has.sub : ∀ {L L' : List Res}, L'.Sublist L → Has w L → Has w L'
  | _, _, .slnil, _ => trivial
  | _, _, .cons _ hs, h => Has.sub hs h.2.2
  | _, _, .cons_cons _ hs, h => ⟨h.1, fun q hq => h.2.1 q (hs.subset hq), Has.sub hs h.2.2⟩
theorem Has.tail {r : Res} (h : Has w (r :: L)) : Has w L := h.2.2
theorem Has.erase : ∀ {L : List Res} (_ : Has w L) (i : Nat), Has w (L.eraseIdx i)
  | [], _, _ => trivial
  | _ :: _, h, 0 => h.2.2
  | _ :: _, h, i + 1 => ⟨h.1, fun q hq => h.2.1 q (List.mem_of_mem_eraseIdx hq), Has.erase h.2.2 i⟩
end
end
end Go.Proofs.YtndophlnapjkhaaGreatDoor.Vc
namespace Go.Proofs.YtndophlnapjkhaaGreatDoor.Vc
open Go Go.RowKit
set_option linter.unusedSimpArgs false
section
variable {P : Program} {w : World} {ρ : Operand → Value} {o : Oper}
def Sized (P : Program) (t : TypeId) (n : Nat) : Prop := ∀ w, (sizeOf t).run P w = .ok n w
def Agg (P : Program) (t : TypeId) (b : Bool) : Prop := ∀ w, (isAgg t).run P w = .ok b w
/-! ### Addresses -/
theorem r_fieldAddr {s : TypeId} {x : Operand} {i : Nat} {fs : Array Field} {f : Field} {a : Addr} {n : Nat} (h : o.op = .fieldAddr s x i) (hu : P.underlying s = some (.struct fs)) (hf : fs[i]? = some f) (hs : Sized P f.type (n + 1)) (hx : ρ x = .pointer (some a)) :
    (execOp ρ o).run P w = .ok (.value (.pointer (some (a.add f.offset)))) w := by
  simp [execOp, h, Instr.fieldAt, run_underlying hu, hf, Instr.sureAddr, hx, fieldPlace, hs w]
theorem r_indexAddr {t el : TypeId} {x ix : Operand} {k : IntKind} {i : Int} {a : Addr} {len cap n : Nat} (h : o.op = .indexAddr t x ix) (hu : P.underlying t = some (.slice el)) (hs : Sized P el n) (hx : ρ x = .slice (some a) len cap) (hi : ρ ix = .int k i) (h0 : 0 ≤ i) (h1 : i < len) :
    (execOp ρ o).run P w = .ok (.value (.pointer (some (a.add (i.toNat * n))))) w := by
  simp [execOp, h, Instr.indexAt, run_underlying hu, hx, hi, asIntOf, h0, h1, hs w]
theorem r_indexAddr_arr {t el : TypeId} {x ix : Operand} {k : IntKind} {i : Int} {a : Addr} {len n : Nat} (h : o.op = .indexAddr t x ix) (hu : P.underlying t = some (.array len el)) (hs : Sized P el n) (hx : ρ x = .pointer (some a)) (hi : ρ ix = .int k i) (h0 : 0 ≤ i) (h1 : i < len) :
    (execOp ρ o).run P w = .ok (.value (.pointer (some (a.add (i.toNat * n))))) w := by
  simp [execOp, h, Instr.indexAt, run_underlying hu, hx, hi, asIntOf, h0, h1, hs w, Instr.sureAddr]
theorem r_index_arr {t el : TypeId} {x ix : Operand} {k : IntKind} {i : Int} {cs : Array Value} {len : Nat} {v : Value} (h : o.op = .index t x ix) (hu : P.underlying t = some (.array len el)) (hs : Sized P el 1) (ha : Agg P el false) (hx : ρ x = .agg cs) (hi : ρ ix = .int k i) (h0 : 0 ≤ i) (h1 : i < len) (hv : cs[i.toNat]? = some v) :
    (execOp ρ o).run P w = .ok (.value v) w := by
  simp [execOp, h, Instr.index, run_underlying hu, hx, hi, asIntOf, h0, h1, hs w, part, ha w, hv]
theorem r_index_str {t : TypeId} {x ix : Operand} {k : IntKind} {i : Int} {s : ByteArray} {c : UInt8} (h : o.op = .index t x ix) (hu : P.underlying t = some .string) (hx : ρ x = .string s) (hi : ρ ix = .int k i) (h0 : 0 ≤ i) (hc : s[i.toNat]? = some c) :
    (execOp ρ o).run P w = .ok (.value (.int .u8 c.toNat)) w := by
  simp [execOp, h, Instr.index, run_underlying hu, hx, hi, asIntOf, h0, hc]
theorem r_field {t : TypeId} {x : Operand} {i : Nat} {fs : Array Field} {f : Field} {cs : Array Value} {v : Value} (h : o.op = .field t x i) (hu : P.underlying t = some (.struct fs)) (hf : fs[i]? = some f) (ha : Agg P f.type false) (hx : ρ x = .agg cs) (hv : cs[f.offset]? = some v) :
    (execOp ρ o).run P w = .ok (.value v) w := by
  simp [execOp, h, Instr.field, run_underlying hu, hf, hx, asAgg, part, ha w, hv]
/-! ### Loads -/
theorem r_load {t : TypeId} {x : Operand} {a : Addr} {v : Value} (h : o.op = .load t x) (ha : Agg P t false) (hx : ρ x = .pointer (some a)) (hc : w.cell? a = some v) : (execOp ρ o).run P w = .ok (.value v) w := by
  simp [execOp, h, Instr.loadAt, Instr.sureAddr, hx, loadVar, ha w, run_load, hc]
theorem r_load_agg {t : TypeId} {x : Operand} {a : Addr} {vs : List Value} (h : o.op = .load t x) (ha : Agg P t true) (hn : Sized P t vs.length) (hx : ρ x = .pointer (some a)) (hc : ∀ j v, vs[j]? = some v → w.cell? (a.add j) = some v) : (execOp ρ o).run P w = .ok (.value (.agg vs.toArray)) w := by
  simp [execOp, h, Instr.loadAt, Instr.sureAddr, hx, loadVar, ha w, hn w, run_loadCells_list (P := P) (w := w) a vs hc]
theorem blk_cell {b : Nat} {cs : Array Value} {t : TypeId} {fr : Nat × Nat} (h : w.heap[b]? = some (.cells cs t fr)) (i : Nat) : w.cell? ⟨b, i, none⟩ = cs[i]? := by
  simp [World.cell?, h]
theorem blk_add (b off j : Nat) : (⟨b, off, none⟩ : Addr).add j = ⟨b, off + j, none⟩ := by
  unfold Addr.add
  split
  · rename_i hj; subst hj; rfl
  · rfl
theorem r_load_blk {t : TypeId} {x : Operand} {b off : Nat} {cs : Array Value} {u : TypeId} {fr : Nat × Nat} {v : Value} (h : o.op = .load t x) (ha : Agg P t false) (hx : ρ x = .pointer (some ⟨b, off, none⟩)) (hb : w.heap[b]? = some (.cells cs u fr)) (hv : cs[off]? = some v) : (execOp ρ o).run P w = .ok (.value v) w :=
  r_load h ha hx (by rw [blk_cell hb]; exact hv)
theorem r_load_blk_agg {t : TypeId} {x : Operand} {b off n : Nat} {cs : Array Value} {u : TypeId} {fr : Nat × Nat} (h : o.op = .load t x) (ha : Agg P t true) (hn : Sized P t n) (hx : ρ x = .pointer (some ⟨b, off, none⟩)) (hb : w.heap[b]? = some (.cells cs u fr)) (hv : Nat.ble (off + n) cs.size = true) : (execOp ρ o).run P w = .ok (.value (.agg (cs.extract off (off + n)))) w := by
  have hv' : off + n ≤ cs.size := Nat.le_of_ble_eq_true hv
  have hl : (cs.extract off (off + n)).toList.length = n := by simp; omega
  have := r_load_agg (P := P) (w := w) (ρ := ρ) (vs := (cs.extract off (off + n)).toList) h ha (by rw [hl]; exact hn) hx (fun j v hj => by
    rw [blk_add, blk_cell hb]
    have hjn : j < n := by have := (List.getElem?_eq_some_iff.1 hj).1; omega
    rw [Array.getElem?_toList, Array.getElem?_extract] at hj
    split at hj
    · exact hj
    · cases hj)
  rw [this, Array.toArray_toList]
/-! ### Stores -/
def putAt (cs : Array Value) (i : Nat) : List Value → Array Value
  | [] => cs
  | v :: r => putAt (cs.setIfInBounds i v) (i + 1) r
theorem size_putAt (cs : Array Value) (i : Nat) (l : List Value) : (putAt cs i l).size = cs.size := by
  induction l generalizing cs i with
  | nil => rfl
  | cons v r ih => simp [putAt, ih]
theorem run_storeCells {b : Nat} {t : TypeId} : ∀ (l : List Value) (w : World) (cs : Array Value) (off i : Nat), w.heap[b]? = some (.cells cs t (0, 0)) → off + i + l.length ≤ cs.size → (∀ v ∈ l, v.oneCell' = true) →
    ∃ w', (storeCells ⟨b, off, none⟩ l i).run P w = .ok () w' ∧ w'.heap[b]? = some (.cells (putAt cs (off + i) l) t (0, 0)) ∧ (∀ k, k ≠ b → w'.heap[k]? = w.heap[k]?) ∧ w'.os = w.os ∧ w'.tape = w.tape ∧ w'.output = w.output ∧ w'.heap.size = w.heap.size
  | [], w, cs, off, i, hb, _, _ => ⟨w, by simp [storeCells], hb, fun _ _ => rfl, rfl, rfl, rfl, rfl⟩
  | v :: r, w, cs, off, i, hb, hl, h1 => by
    have hc : w.cell? ⟨b, off + i, none⟩ = cs[off + i]? := blk_cell hb _
    have hlt : off + i < cs.size := by simp at hl; omega
    have hf : w.frozen? ⟨b, off + i, none⟩ = false := by simp [World.frozen?, hb]
    have hset : (w.setCell ⟨b, off + i, none⟩ v).heap[b]? = some (.cells (cs.setIfInBounds (off + i) v) t (0, 0)) := by simp [World.setCell, Array.getElem?_modify, hb]
    obtain ⟨w', hr, hb', hk, h2, h3, h4, h5⟩ := run_storeCells r (w.setCell ⟨b, off + i, none⟩ v) (cs.setIfInBounds (off + i) v) off (i + 1) hset (by simp at hl ⊢; omega) (fun u hu => h1 u (List.mem_cons_of_mem _ hu))
    refine ⟨w', ?_, hb', fun k hkb => (hk k hkb).trans (Below.heap_setCell _ _ _ _ hkb), h2, h3, h4, by rw [h5]; simp⟩
    have hst := run_store P w ⟨b, off + i, none⟩ v .plain (h1 v List.mem_cons_self)
    rw [hc, Array.getElem?_eq_getElem hlt] at hst
    simp only [hf] at hst
    rw [storeCells, blk_add]
    simp only [Sem.run_bind]
    rw [show (store ⟨b, off + i, none⟩ v).run P w = .ok () (w.setCell ⟨b, off + i, none⟩ v) from by simpa using hst]
    exact hr
theorem r_store {t : TypeId} {x y : Operand} {b off n : Nat} {cs : Array Value} {u : TypeId} {S : Nat → Prop} {w0 : World} {L : List Res} (i : Nat) (h : o.op = .store t x y) (hn : Sized P t n) (hx : ρ x = .pointer (some ⟨b, off, none⟩))
    (hL : Has w L) (hE : Ext S w0 w) (hi : L[i]? = some (.blk b (.cells cs u (0, 0)))) (hv : Nat.beq (ρ y).cells.size n = true) (h1 : (ρ y).cells.toList.all Value.oneCell' = true) (hl : Nat.ble (off + n) cs.size = true) (hS : b < w0.heap.size → S b) :
    ∃ w', (execOp ρ o).run P w = .ok .skip w' ∧ Has w' (L.set i (.blk b (.cells (putAt cs off (ρ y).cells.toList) u (0, 0)))) ∧ Ext S w0 w' ∧ w'.heap.size = w.heap.size ∧ (∀ k, k ≠ b → w'.heap[k]? = w.heap[k]?) := by
  have hv' : (ρ y).cells.size = n := Nat.eq_of_beq_eq_true hv
  have hl' : off + n ≤ cs.size := Nat.le_of_ble_eq_true hl
  obtain ⟨w', hr, hb', hk, h2, h3, h4, h5⟩ := run_storeCells (P := P) (b := b) (t := u) (ρ y).cells.toList w cs off 0 (hL.get i hi) (by simp; omega) (List.all_eq_true.1 h1)
  refine ⟨w', ?_, hL.setAt (r' := .blk b _) i hi (by rw [Nat.add_zero] at hb'; exact hb') (fun c hc => .inl hc) (fun k _ hne => hk k (fun e => hne (by rw [e]; rfl))), ⟨h2.trans hE.os, h3.trans hE.tape, h4.trans hE.output, by rw [h5]; exact hE.size, fun k hk0 hs => ?_⟩, h5, hk⟩
  · simp [execOp, h, Instr.storeAt, Instr.sureAddr, hx, storeVar, hn w, hv', hr]
  · have hkb : k ≠ b := fun e => hs (by subst e; exact hS hk0)
    rw [hk k hkb]
    exact hE.block k hk0 hs
/-! ### New blocks -/
theorem r_box {t : TypeId} {x : Operand} (h : o.op = .box t x) : (execOp ρ o).run P w = .ok (.value (.pointer (some ⟨w.heap.size, 0, none⟩))) (w.alloc (.cells (ρ x).cells t)) := by
  simp [execOp, h, Instr.box, newVar, newRow]
theorem r_alloc {t : TypeId} {z : Value} (h : o.op = .alloc t) (hz : ∀ w, (zeroValue t).run P w = .ok z w) : (execOp ρ o).run P w = .ok (.value (.pointer (some ⟨w.heap.size, 0, none⟩))) (w.alloc (.cells z.cells t)) := by
  simp [execOp, h, Instr.alloc, hz w, newVar, newRow]
theorem r_makeMap {t : TypeId} (h : o.op = .makeMap t none) : (execOp ρ o).run P w = .ok (.value (.map (some w.heap.size))) (w.alloc (.map #[] 0)) := by
  simp [execOp, h, Instr.makeMap]
theorem r_buildSlice {t el : TypeId} {n sz : Nat} {ps : Array (Nat × Operand)} {z : Value} {cells : Array Value} (h : o.op = .buildSlice t n ps) (hu : P.underlying t = some (.slice el)) (hs : Sized P el sz) (hz : ∀ w, (zeroValue el).run P w = .ok z w) (hn0 : Nat.blt 0 (n * sz) = true) (hn : Nat.ble (n * sz) 16777216 = true)
    (hf : Instr.fill (fun i => some (i * sz, sz)) ((List.range (n * sz)).map (z.cells[· % z.cells.size]!)).toArray (ps.toList.map fun (i, x) => (i, ρ x)) = some cells) : (execOp ρ o).run P w = .ok (.value (.slice (some ⟨w.heap.size, 0, none⟩) n n)) (w.alloc (.cells cells el)) := by
  have h0 : ¬ n * sz = 0 := by have := Nat.le_of_ble_eq_true hn0; omega
  have h1 : ¬ n * sz > 2 ^ 24 := by have := Nat.le_of_ble_eq_true hn; omega
  have hr : (Array.range (n * sz)).map (z.cells[· % z.cells.size]!) = ((List.range (n * sz)).map (z.cells[· % z.cells.size]!)).toArray := by
    apply Array.ext'
    simp
  rw [← hr] at hf
  have hp : ps.toList.map (fun (i, x) => (i, ρ x)) = (ps.map fun (i, x) => (i, ρ x)).toList := by simp
  rw [hp] at hf
  simp only [execOp, h, Instr.buildSlice, Sem.run_bind, run_underlying hu, hs w, Result.andThen_ok, if_neg h1, if_neg h0, Sem.run_pure, hz w, hf]
  simp [newRow]
theorem r_buildSlice0 {t el : TypeId} {sz : Nat} (h : o.op = .buildSlice t 0 #[]) (hu : P.underlying t = some (.slice el)) (hs : Sized P el sz) : (execOp ρ o).run P w = .ok (.value (.slice (some ⟨w.heap.size, 0, none⟩) 0 0)) (w.alloc (.cells #[] el)) := by
  have hr : (Array.range 0).map (fun _ => (default : Value)) = #[] := by simp
  simp [execOp, h, Instr.buildSlice, run_underlying hu, hs w, Instr.fill, newRow, hr]
end
end Go.Proofs.YtndophlnapjkhaaGreatDoor.Vc
namespace Go.Proofs.YtndophlnapjkhaaGreatDoor.Vc
open Go Go.RowKit
set_option linter.unusedSimpArgs false
set_option linter.unusedSectionVars false
section
variable {κ ν : Type} [DecidableEq κ]
def getM : List (κ × ν) → κ → Option ν
  | [], _ => none
  | p :: r, x => if p.1 = x then some p.2 else getM r x
def setM : List (κ × ν) → κ → ν → List (κ × ν)
  | [], x, v => [(x, v)]
  | p :: r, x, v => if p.1 = x then (x, v) :: r else p :: setM r x v
def idxM : List (κ × ν) → κ → Option Nat
  | [], _ => none
  | p :: r, x => if p.1 = x then some 0 else (idxM r x).map (· + 1)
def entsM (enc : κ → Value) (venc : ν → Value) : Nat → List (κ × ν) → List MapEntry
  | _, [] => []
  | i, p :: r => ⟨enc p.1, venc p.2, i⟩ :: entsM enc venc (i + 1) r
def mapObj (enc : κ → Value) (venc : ν → Value) (m : List (κ × ν)) : Obj := .map (entsM enc venc 0 m).toArray m.length
theorem length_entsM (enc : κ → Value) (venc : ν → Value) : ∀ (i : Nat) (m : List (κ × ν)), (entsM enc venc i m).length = m.length
  | _, [] => rfl
  | i, p :: r => by simp [entsM, length_entsM enc venc (i + 1) r]
theorem getElem?_entsM (enc : κ → Value) (venc : ν → Value) : ∀ (i : Nat) (m : List (κ × ν)) (j : Nat), (entsM enc venc i m)[j]? = (m[j]?).map fun p => ⟨enc p.1, venc p.2, i + j⟩
  | _, [], j => by simp [entsM]
  | i, p :: r, 0 => by simp [entsM]
  | i, p :: r, j + 1 => by
    simp only [entsM, List.getElem?_cons_succ, getElem?_entsM enc venc (i + 1) r j]
    rw [show i + 1 + j = i + (j + 1) from by omega]
structure KeyLaw (P : Program) (kt : TypeId) (enc : κ → Value) : Prop where
  check : ∀ b x w, (Instr.checkKey b 10000 kt (enc x)).run P w = .ok () w
  bits : ∀ x, Instr.sameBits 10000 (enc x) (enc x) = true
  find : ∀ (x : κ) (ks : List κ) (es : List MapEntry), es.map (·.key) = ks.map enc → ∀ w, (Instr.findKey kt (enc x) es).run P w = .ok ((ks.findIdx? (· = x)).bind fun i => (es[i]?).map fun e => (i, e.val)) w
variable {P : Program} {w : World} {ρ : Operand → Value} {o : Oper} {kt et t : TypeId} {enc : κ → Value} {venc : ν → Value} {m : List (κ × ν)} {b : Nat}
theorem keys_entsM (enc : κ → Value) (venc : ν → Value) : ∀ (i : Nat) (m : List (κ × ν)), (entsM enc venc i m).map (·.key) = (m.map (·.1)).map enc
  | _, [] => rfl
  | i, p :: r => by simp [entsM, keys_entsM enc venc (i + 1) r]
theorem findIdx_getM (venc : ν → Value) : ∀ (i : Nat) (m : List (κ × ν)) (x : κ), (((m.map (·.1)).findIdx? (· = x)).bind fun j => ((entsM enc venc i m)[j]?).map fun e => (j, e.val)) = (idxM m x).bind fun j => (getM m x).map fun v => (j, venc v)
  | _, [], _ => rfl
  | i, p :: r, x => by
    by_cases hp : p.1 = x
    · simp [List.findIdx?_cons, hp, idxM, getM, entsM]
    · have ih := findIdx_getM venc (i + 1) r x
      simp only [List.map_cons, List.findIdx?_cons, hp, decide_false, Bool.false_eq_true, if_false, idxM, getM, entsM, cond_false]
      cases h1 : (r.map (·.1)).findIdx? (· = x) with
      | none =>
        cases h2 : idxM r x with
        | none => simp
        | some j =>
          rw [h1, h2] at ih
          cases h3 : getM r x with
          | none => simp
          | some v => rw [h3] at ih; simp at ih
      | some j =>
        rw [h1] at ih
        simp only [Option.bind_some] at ih
        cases h2 : idxM r x with
        | none =>
          rw [h2] at ih
          simp at ih
          simp
          exact ih
        | some j' =>
          rw [h2] at ih
          simp only [Option.bind_some] at ih
          cases h3 : getM r x with
          | none =>
            rw [h3] at ih
            simp at ih
            simp
            exact ih
          | some v =>
            rw [h3] at ih
            cases h4 : (entsM enc venc (i + 1) r)[j]? with
            | none => rw [h4] at ih; simp at ih
            | some e =>
              rw [h4] at ih
              simp at ih
              obtain ⟨rfl, hv⟩ := ih
              simp
              exact ⟨e, h4, hv⟩
theorem run_findKey (K : KeyLaw P kt enc) (x : κ) (w : World) : (Instr.findKey kt (enc x) (entsM enc venc 0 m)).run P w = .ok ((idxM m x).bind fun j => (getM m x).map fun v => (j, venc v)) w := by
  rw [K.find x (m.map (·.1)) _ (keys_entsM enc venc 0 m) w, findIdx_getM]
theorem idxM_none : ∀ {m : List (κ × ν)} {x : κ}, idxM m x = none ↔ getM m x = none
  | [], _ => by simp [idxM, getM]
  | p :: r, x => by
    by_cases hp : p.1 = x
    · simp [idxM, getM, hp]
    · simp [idxM, getM, hp, idxM_none (m := r)]
theorem r_lookup {x y : Operand} {k : κ} {z : Value} (h : o.op = .lookup t x y false) (hu : P.underlying t = some (.map kt et)) (K : KeyLaw P kt enc) (hz : ∀ w, (zeroValue et).run P w = .ok z w) (hx : ρ x = .map (some b)) (hy : ρ y = enc k) (hb : w.heap[b]? = some (mapObj enc venc m)) :
    (execOp ρ o).run P w = .ok (.value ((getM m k).elim z venc)) w := by
  have hg : (getObj b).run P w = .ok (mapObj enc venc m) w := by
    simp [getObj, Sem.run, hb, mapObj]
  simp only [execOp, h, Instr.lookup, Sem.run_bind, run_underlying hu, Result.andThen_ok, hx, hy, hg, mapObj, Sem.run_pure]
  rw [K.check]
  simp only [Result.andThen_ok, run_findKey K]
  cases h1 : getM m k with
  | none =>
    rw [(idxM_none).2 h1]
    simp [hz w]
  | some v =>
    cases h2 : idxM m k with
    | none => rw [idxM_none.1 h2] at h1; cases h1
    | some j => simp
theorem r_lookup_ok {x y : Operand} {k : κ} {z : Value} (h : o.op = .lookup t x y true) (hu : P.underlying t = some (.map kt et)) (K : KeyLaw P kt enc) (hz : ∀ w, (zeroValue et).run P w = .ok z w) (hx : ρ x = .map (some b)) (hy : ρ y = enc k) (hb : w.heap[b]? = some (mapObj enc venc m)) :
    (execOp ρ o).run P w = .ok (.value (.tuple #[(getM m k).elim z venc, .bool (getM m k).isSome])) w := by
  have hg : (getObj b).run P w = .ok (mapObj enc venc m) w := by
    simp [getObj, Sem.run, hb, mapObj]
  simp only [execOp, h, Instr.lookup, Sem.run_bind, run_underlying hu, Result.andThen_ok, hx, hy, hg, mapObj, Sem.run_pure]
  rw [K.check]
  simp only [Result.andThen_ok, run_findKey K]
  cases h1 : getM m k with
  | none =>
    rw [(idxM_none).2 h1]
    simp [hz w]
  | some v =>
    cases h2 : idxM m k with
    | none => rw [idxM_none.1 h2] at h1; cases h1
    | some j => simp
theorem r_lookup_int {x y : Operand} {k : κ} {ik : IntKind} {m : List (κ × Int)} (h : o.op = .lookup t x y false) (hu : P.underlying t = some (.map kt et)) (K : KeyLaw P kt enc) (hz : ∀ w, (zeroValue et).run P w = .ok (.int ik 0) w) (hx : ρ x = .map (some b)) (hy : ρ y = enc k) (hb : w.heap[b]? = some (mapObj enc (Value.int ik) m)) :
    (execOp ρ o).run P w = .ok (.value (.int ik ((getM m k).getD 0))) w := by
  have := r_lookup h hu K hz hx hy hb
  rw [this]
  cases getM m k <;> rfl
theorem r_lookup_ok_none {x y : Operand} {k : κ} {z : Value} (h : o.op = .lookup t x y true) (hu : P.underlying t = some (.map kt et)) (K : KeyLaw P kt enc) (hz : ∀ w, (zeroValue et).run P w = .ok z w) (hx : ρ x = .map (some b)) (hy : ρ y = enc k) (hb : w.heap[b]? = some (mapObj enc venc m)) (hg : getM m k = none) :
    (execOp ρ o).run P w = .ok (.value (.tuple #[z, .bool false])) w := by
  have := r_lookup_ok h hu K hz hx hy hb
  rw [hg] at this
  exact this
theorem r_lookup_ok_some {x y : Operand} {k : κ} {z : Value} {v : ν} (h : o.op = .lookup t x y true) (hu : P.underlying t = some (.map kt et)) (K : KeyLaw P kt enc) (hz : ∀ w, (zeroValue et).run P w = .ok z w) (hx : ρ x = .map (some b)) (hy : ρ y = enc k) (hb : w.heap[b]? = some (mapObj enc venc m)) (hg : getM m k = some v) :
    (execOp ρ o).run P w = .ok (.value (.tuple #[venc v, .bool true])) w := by
  have := r_lookup_ok h hu K hz hx hy hb
  rw [hg] at this
  exact this
theorem r_len_map {x : Operand} {ts : TypeId} (h : o.op = .call { callee := .builtin .len, args := #[x], argTypes := #[ts] }) (hu : P.underlying ts = some (.map kt et)) (hx : ρ x = .map (some b)) (hb : w.heap[b]? = some (mapObj enc venc m)) :
    (execOp ρ o).run P w = .ok (.value (.int .i64 m.length)) w := by
  have hg : (getObj b).run P w = .ok (mapObj enc venc m) w := by
    simp [getObj, Sem.run, hb, mapObj]
  simp [execOp, h, resolve, invoke, builtin, Builtin.len_, run_underlying hu, hx, hg, mapObj, length_entsM, goInt]
theorem getObj_map (hb : w.heap[b]? = some (mapObj enc venc m)) : (getObj b).run P w = .ok (mapObj enc venc m) w := by simp [getObj, Sem.run, hb, mapObj]
theorem setM_idx : ∀ (i : Nat) (m : List (κ × ν)) (x : κ) (v : ν) (j : Nat), idxM m x = some j → (entsM enc venc i m).modify j (fun e => { e with key := enc x, val := venc v }) = entsM enc venc i (setM m x v)
  | _, [], _, _, _, h => by simp [idxM] at h
  | i, p :: r, x, v, j, h => by
    by_cases hp : p.1 = x
    · simp [idxM, hp] at h
      subst h
      simp [setM, hp, entsM, List.modify_cons]
    · simp [idxM, hp] at h
      obtain ⟨j', h', rfl⟩ := h
      simp [setM, hp, entsM, setM_idx (i + 1) r x v j' h']
theorem setM_none : ∀ (i : Nat) (m : List (κ × ν)) (x : κ) (v : ν), idxM m x = none → entsM enc venc i m ++ [⟨enc x, venc v, i + m.length⟩] = entsM enc venc i (setM m x v)
  | i, [], x, v, _ => by simp [entsM, setM]
  | i, p :: r, x, v, h => by
    by_cases hp : p.1 = x
    · simp [idxM, hp] at h
    · simp [idxM, hp] at h
      simp only [setM, hp, if_false, entsM, List.cons_append]
      rw [← setM_none (i + 1) r x v h]
      simp only [List.length_cons]
      rw [show i + 1 + r.length = i + (r.length + 1) from by omega]
theorem length_setM : ∀ (m : List (κ × ν)) (x : κ) (v : ν), (setM m x v).length = if (idxM m x).isSome then m.length else m.length + 1
  | [], _, _ => rfl
  | p :: r, x, v => by
    by_cases hp : p.1 = x
    · simp [setM, hp, idxM]
    · simp only [setM, hp, if_false, List.length_cons, length_setM r x v, idxM, Option.isSome_map]
      split <;> rfl
theorem idxM_lt : ∀ {m : List (κ × ν)} {x : κ} {j : Nat}, idxM m x = some j → ∃ p, m[j]? = some p ∧ p.1 = x
  | [], _, _, h => by simp [idxM] at h
  | p :: r, x, j, h => by
    by_cases hp : p.1 = x
    · simp [idxM, hp] at h
      subst h
      exact ⟨p, rfl, hp⟩
    · simp [idxM, hp] at h
      obtain ⟨j', h', rfl⟩ := h
      simpa using idxM_lt h'
theorem r_mapUpdate {x y z : Operand} {k : κ} {v : ν} {S : Nat → Prop} {w0 : World} {L : List Res} (i : Nat) (h : o.op = .mapUpdate t x y z) (hu : P.underlying t = some (.map kt et)) (K : KeyLaw P kt enc) (hx : ρ x = .map (some b)) (hy : ρ y = enc k) (hz : ρ z = venc v)
    (hL : Has w L) (hE : Ext S w0 w) (hi : L[i]? = some (.blk b (mapObj enc venc m))) (hS : b < w0.heap.size → S b) :
    ∃ w', (execOp ρ o).run P w = .ok .skip w' ∧ Has w' (L.set i (.blk b (mapObj enc venc (setM m k v)))) ∧ Ext S w0 w' ∧ w'.heap.size = w.heap.size ∧ (∀ k, k ≠ b → w'.heap[k]? = w.heap[k]?) := by
  have hb := hL.get i hi
  have hlt : b < w.heap.size := (Array.getElem?_eq_some_iff.1 hb).1
  let w' : World := { w with heap := w.heap.setIfInBounds b (mapObj enc venc (setM m k v)) }
  have hb' : w'.heap[b]? = some (mapObj enc venc (setM m k v)) := by simp [w', hlt]
  have hk : ∀ k, k ≠ b → w'.heap[k]? = w.heap[k]? := fun k hk => by simp [w', Array.getElem?_setIfInBounds_ne (Ne.symm hk)]
  have hset : ∀ ob, (setObj b ob).run P w = .ok () { w with heap := w.heap.setIfInBounds b ob } := fun ob => by simp [setObj, Sem.run, hb, mapObj]
  refine ⟨w', ?_, hL.setAt (r' := .blk b _) i hi hb' (fun c hc => .inl hc) (fun k _ hne => hk k (fun e => hne (by rw [e]; rfl))), ⟨hE.os, hE.tape, hE.output, by simpa [w'] using hE.size, fun j hj hs => ?_⟩, by simp [w'], hk⟩
  · have hkey : ∀ old, old = enc k → (Instr.keyThatStays old (enc k)).run P w = .ok (enc k) w := by
      rintro _ rfl
      simp [Instr.keyThatStays, K.bits]
    simp only [execOp, h, Instr.mapUpdate, Sem.run_bind, run_underlying hu, Result.andThen_ok, hx, hy, hz, getObj_map hb, mapObj]
    rw [K.check]
    simp only [Result.andThen_ok, run_findKey K]
    cases h2 : idxM m k with
    | none =>
      simp only [Option.bind_none, Sem.run_bind, hset, Result.andThen_ok, Sem.run_pure]
      congr 2
      simp only [w', mapObj]
      have h3 := setM_none (enc := enc) (venc := venc) 0 m k v h2
      have h4 := length_setM m k v
      rw [h2] at h4
      simp only [Nat.zero_add] at h3
      congr 2
      · rw [← h3]
        simp
      · rw [h4]
        rfl
    | some j =>
      obtain ⟨p, hp, hpk⟩ := idxM_lt h2
      cases h1 : getM m k with
      | none => rw [idxM_none.2 h1] at h2; cases h2
      | some u =>
        have hent : ((entsM enc venc 0 m).toArray[j]?).map (·.key) = some (enc k) := by
          simp [getElem?_entsM, hp, hpk]
        simp only [Option.bind_some, Option.map_some, Sem.run_bind, hent, Option.getD_some, hkey _ rfl, hset, Result.andThen_ok, Sem.run_pure]
        congr 2
        simp only [w', mapObj]
        have h3 := setM_idx (enc := enc) (venc := venc) 0 m k v j h2
        have h4 := length_setM m k v
        rw [h2] at h4
        congr 2
        · rw [← h3]
          simp
        · rw [h4]
          rfl
  · have hjb : j ≠ b := fun e => hs (by subst e; exact hS hj)
    rw [hk j hjb]
    exact hE.block j hj hs
end
/-! ### Key types -/
theorem findAsking_law {P : Program} {kt : TypeId} {κ : Type} [DecidableEq κ] {enc : κ → Value} (heq : ∀ x y w, (Op.equal kt (enc x) (enc y)).run P w = .ok (decide (x = y)) w) (x : κ) : ∀ (ks : List κ) (es : List MapEntry) (i : Nat), es.map (·.key) = ks.map enc →
    ∀ w, (Instr.findAsking kt (enc x) es i).run P w = .ok ((ks.findIdx? (· = x)).bind fun j => (es[j]?).map fun e => (i + j, e.val)) w
  | [], [], _, _, _ => rfl
  | k :: ks, e :: es, i, h, w => by
    simp only [List.map_cons, List.cons.injEq] at h
    simp only [Instr.findAsking, Sem.run_bind, h.1, heq, Result.andThen_ok]
    by_cases hk : x = k
    · subst hk
      simp [List.findIdx?_cons]
    · have hk' : ¬ k = x := fun e => hk e.symm
      simp only [hk, decide_false, Bool.false_eq_true, if_false, findAsking_law heq x ks es (i + 1) h.2 w, List.findIdx?_cons, hk']
      cases ks.findIdx? (· = x) with
      | none => rfl
      | some j =>
        simp only [Option.bind_some, Option.map_some, List.getElem?_cons_succ]
        rw [show i + 1 + j = i + (j + 1) from by omega]
  | [], _ :: _, _, h, _ => by simp at h
  | _ :: _, [], _, h, _ => by simp at h
theorem findNow_law {kind : TypeDesc} {κ : Type} [DecidableEq κ] {enc : κ → Value} (hs : ∀ x y, Instr.sameNow kind (enc x) (enc y) = some (decide (x = y))) (x : κ) : ∀ (ks : List κ) (es : List MapEntry) (i : Nat), es.map (·.key) = ks.map enc →
    Instr.findNow kind (enc x) es i = some ((ks.findIdx? (· = x)).bind fun j => (es[j]?).map fun e => (i + j, e.val))
  | [], [], _, _ => rfl
  | k :: ks, e :: es, i, h => by
    simp only [List.map_cons, List.cons.injEq] at h
    simp only [Instr.findNow, h.1, hs]
    by_cases hk : x = k
    · subst hk
      simp [List.findIdx?_cons]
    · have hk' : ¬ k = x := fun e => hk e.symm
      simp only [hk, decide_false, findNow_law hs x ks es (i + 1) h.2, List.findIdx?_cons, hk', Bool.false_eq_true, if_false]
      cases ks.findIdx? (· = x) with
      | none => rfl
      | some j =>
        simp only [Option.bind_some, Option.map_some, List.getElem?_cons_succ]
        rw [show i + 1 + j = i + (j + 1) from by omega]
  | [], _ :: _, _, h => by simp at h
  | _ :: _, [], _, h => by simp at h
theorem KeyLaw.int {P : Program} {kt : TypeId} {k : IntKind} (hu : P.underlying kt = some (.int k)) : KeyLaw P kt (Value.int k) where
  check b x w := by
    rw [show (10000 : Nat) = 9999 + 1 from rfl, Instr.checkKey]
    simp [run_underlying hu]
  bits x := by simp [Instr.sameBits]
  find x ks es h w := by
    have := findNow_law (kind := .int k) (enc := Value.int k) (fun x y => by simp [Instr.sameNow]; rfl) x ks es 0 h
    simp only [Instr.findKey, Sem.run_bind, run_underlying hu, Result.andThen_ok, this, Sem.run_pure]
    simp
theorem KeyLaw.string {P : Program} {kt : TypeId} (hu : P.underlying kt = some .string) : KeyLaw P kt Value.string where
  check b x w := by
    rw [show (10000 : Nat) = 9999 + 1 from rfl, Instr.checkKey]
    simp [run_underlying hu]
  bits x := by simp only [Instr.sameBits, beq_toListBytes, str_beq]; simp
  find x ks es h w := by
    have := findNow_law (kind := .string) (enc := Value.string) (fun x y => by simp only [Instr.sameNow, beq_toListBytes, str_beq]) x ks es 0 h
    simp only [Instr.findKey, Sem.run_bind, run_underlying hu, Result.andThen_ok, this, Sem.run_pure]
    simp
def enc2 (p : Int × Int) : Value := .agg #[.int .i64 p.1, .int .i64 p.2]
theorem KeyLaw.pair {P : Program} {kt : TypeId} (heq : ∀ a b c d w, (Op.equal kt (.agg #[.int .i64 a, .int .i64 b]) (.agg #[.int .i64 c, .int .i64 d])).run P w = .ok (decide (a = c) && decide (b = d)) w)
    (hck : ∀ e a b w, (Instr.checkKey e 10000 kt (.agg #[.int .i64 a, .int .i64 b])).run P w = .ok () w) {fs : Array Field} (hu : P.underlying kt = some (.struct fs)) : KeyLaw P kt enc2 where
  check b x w := hck b x.1 x.2 w
  bits x := by
    rw [show (10000 : Nat) = 9999 + 1 from rfl]
    simp [enc2, Instr.sameBits]
  find x ks es h w := by
    have hq : ∀ x y w, (Op.equal kt (enc2 x) (enc2 y)).run P w = .ok (decide (x = y)) w := fun x y w => by
      rw [enc2, enc2, heq]
      congr 1
      rw [← Bool.decide_and]
      congr 1
      exact propext Prod.ext_iff.symm
    have hl := findAsking_law hq x ks es 0 h w
    cases es with
    | nil =>
      have : ks = [] := by simpa using h.symm
      subst this
      simp [Instr.findKey, run_underlying hu, Instr.findNow]
    | cons e es =>
      have hn : Instr.findNow (.struct fs) (enc2 x) (e :: es) 0 = none := by
        simp only [Instr.findNow, Instr.sameNow]
      simp only [Instr.findKey, Sem.run_bind, run_underlying hu, Result.andThen_ok, hn, hl]
      simp
end Go.Proofs.YtndophlnapjkhaaGreatDoor.Vc
namespace Go.Proofs.YtndophlnapjkhaaGreatDoor.Vc
open Go Go.RowKit
set_option linter.unusedSimpArgs false
set_option linter.unusedSectionVars false
section
variable {P : Program} {w : World} {ρ : Operand → Value} {o : Oper}
/-! ### Calls -/
theorem r_call {f : Operand} {ags : Array Operand} {ts : Array TypeId} {g : FuncId} {fs cs : Array Value} {fn : Func} {c : Code} (h : o.op = .call { callee := .value f, args := ags, argTypes := ts }) (hf : ρ f = .func (.func g) fs cs) (hg : P.funcs[g]? = some fn) (hn : (fn.name == "runtime.NumGoroutine") = false) (hb : fn.body = some c) :
    (execOp ρ o).run P w = .ok (.enter g (fs.toList ++ (ags.toList.map ρ ++ cs.toList)).toArray) w := by
  have h1 : fn.name ≠ "runtime.NumGoroutine" := by simpa using hn
  have h2 : (fs.toList ++ (ags.toList.map ρ ++ cs.toList)).toArray = fs ++ ags.map ρ ++ cs := by
    apply Array.ext'
    simp
  rw [h2]
  simp [execOp, h, resolve, hf, Deferred.ofValue, invoke, callFunc, hg, h1, hb, Array.append_assoc]
/-! ### Lengths -/
theorem r_len {x : Operand} {t el : TypeId} {A : Option Addr} {n c : Nat} (h : o.op = .call { callee := .builtin .len, args := #[x], argTypes := #[t] }) (hu : P.underlying t = some (.slice el)) (hx : ρ x = .slice A n c) : (execOp ρ o).run P w = .ok (.value (.int .i64 n)) w := by
  simp [execOp, h, resolve, invoke, builtin, Builtin.len_, run_underlying hu, hx, goInt]
theorem r_len_str {x : Operand} {t : TypeId} {s : ByteArray} (h : o.op = .call { callee := .builtin .len, args := #[x], argTypes := #[t] }) (hu : P.underlying t = some .string) (hx : ρ x = .string s) : (execOp ρ o).run P w = .ok (.value (.int .i64 s.size)) w := by
  simp [execOp, h, resolve, invoke, builtin, Builtin.len_, run_underlying hu, hx, goInt]
theorem r_min {x y : Operand} {t1 t2 : TypeId} {k : IntKind} {a b : Int} (h : o.op = .call { callee := .builtin .min, args := #[x, y], argTypes := #[t1, t2] }) (hx : ρ x = .int k a) (hy : ρ y = .int k b) : (execOp ρ o).run P w = .ok (.value (.int k (if b < a then b else a))) w := by
  simp [execOp, h, resolve, invoke, builtin, Builtin.min_, Builtin.min2, hx, hy]
theorem r_conv_int {x : Operand} {t u : TypeId} {k k' : IntKind} {a : Int} (h : o.op = .convert t u x) (ht : P.underlying t = some (.int k)) (hu : P.underlying u = some (.int k')) (hx : ρ x = .int k a) : (execOp ρ o).run P w = .ok (.value (.int k' (k'.wrap a))) w := by
  simp [execOp, h, convert, run_underlying ht, run_underlying hu, hx, Conv.intToInt]
/-! ### Slicings -/
theorem r_eql_nil {x : Operand} {t t' el : TypeId} {A : Option Addr} {n c n' c' : Nat} (h : o.op = .binOp .eql t x (.const (.slice none n' c')) t') (hρ : ρ (.const (.slice none n' c')) = .slice none n' c') (hu : P.underlying t = some (.slice el)) (hx : ρ x = .slice A n c) : (execOp ρ o).run P w = .ok (.value (.bool A.isNone)) w := by
  have := Lib.run_eql_slice_nil (P := P) w t el A n c n' c' hu
  simp [execOp, h, hx, hρ, eqGuard, this]
theorem r_slice_from {x i : Operand} {t el : TypeId} {A : Option Addr} {n c sz : Nat} {k : IntKind} {a : Int} (h : o.op = .slice t x (some i) none none) (hu : P.underlying t = some (.slice el)) (hs : Sized P el sz) (hx : ρ x = .slice A n c) (hi : ρ i = .int k a) (h0 : 0 ≤ a) (h1 : a ≤ n) :
    (execOp ρ o).run P w = .ok (.value (.slice (if c = a.toNat then A else A.map (·.add (a.toNat * sz))) (n - a.toNat) (c - a.toNat))) w := by
  have hb : (Instr.sliceBound (.int k a) n .sliceB).run P w = .ok a.toNat w := run_sliceBound w k a n .sliceB h0 h1
  simp [execOp, h, Instr.sliceAt, run_underlying hu, Instr.slice, hx, hi, Instr.sliceBounds, hb, hs w]
theorem r_slice_to {x i : Operand} {t el : TypeId} {A : Option Addr} {n c sz : Nat} {k : IntKind} {a : Int} (h : o.op = .slice t x none (some i) none) (hu : P.underlying t = some (.slice el)) (hs : Sized P el sz) (hx : ρ x = .slice A n c) (hi : ρ i = .int k a) (h0 : 0 ≤ a) (h1 : a ≤ c) :
    (execOp ρ o).run P w = .ok (.value (.slice A a.toNat c)) w := by
  have hb : (Instr.sliceBound (.int k a) c .sliceAcap).run P w = .ok a.toNat w := run_sliceBound w k a c .sliceAcap h0 h1
  simp [execOp, h, Instr.sliceAt, run_underlying hu, Instr.slice, hx, hi, Instr.sliceBounds, hb, hs w]
  intro h2
  cases A with
  | none => rfl
  | some ad => simp [Addr.add]
theorem r_str_to {x i : Operand} {t : TypeId} {s : ByteArray} {k : IntKind} {a : Int} (h : o.op = .slice t x none (some i) none) (hu : P.underlying t = some .string) (hx : ρ x = .string s) (hi : ρ i = .int k a) (h0 : 0 ≤ a) (h1 : a ≤ s.size) :
    (execOp ρ o).run P w = .ok (.value (.string (s.extract 0 a.toNat))) w := by
  have hb : (Instr.sliceBound (.int k a) s.size .sliceAlen).run P w = .ok a.toNat w := run_sliceBound w k a s.size .sliceAlen h0 h1
  simp [execOp, h, Instr.sliceAt, run_underlying hu, Instr.slice, hx, hi, Instr.sliceBounds, hb]
/-! ### Appends -/
theorem r_append {x y : Operand} {t el : TypeId} {base sz n m c bytes : Nat} {v z : Value} {a : Addr} {xs ys : List Value} {S : Nat → Prop} {w0 : World} {L : List Res} (i : Nat) (h : o.op = .call { callee := .builtin .append, args := #[x, y], argTypes := #[t, t] })
    (hu : P.underlying t = some (.slice el)) (hinfo : (P.info? el).map (fun i => (i.zero, i.size, i.bytes)) = some (some z, sz, bytes)) (hz : z.cells.size = sz) (hsz : 0 < sz) (hx : ρ x = v) (hy : ρ y = .slice (some a) m c)
    (hL : Has w L) (hE : Ext S w0 w) (hi : L[i]? = some (.row base el sz v n xs)) (hlen : ys.length = m * sz) (hys : ∀ j u, ys[j]? = some u → w.cell? (a.add j) = some u) (h1 : ∀ u ∈ ys, u.oneCell' = true) (hbytes : (n + m) * bytes ≤ 140737488355328) (h63 : n + m ≤ 9223372036854775807) (hbase : w0.heap.size ≤ base) (hbw : base ≤ w.heap.size) :
    ∃ v' w', (execOp ρ o).run P w = .ok (.value v') w' ∧ Has w' (L.set i (.row base el sz v' (n + m) (xs ++ ys))) ∧ Ext S w0 w' ∧ (∀ b, b < w.heap.size → v.ownBlock ≠ some b → w'.heap[b]? = w.heap[b]?) := by
  obtain ⟨i0, hinf, hzz⟩ := Option.map_eq_some_iff.1 hinfo
  simp only [Prod.mk.injEq] at hzz
  obtain ⟨hz0, hz1, hz2⟩ := hzz
  have hrow := hL.row i hi
  obtain ⟨v', w', hr, hown, hg, _, hat⟩ := run_append_own_at (P := P) w base t o.type el i0 z sz bytes hu hinf hz0 hz1 hz2 hz hsz v n xs hrow a m c ys hlen hys h1 (by simp only [maxLen]; omega) hbytes hbw
  refine ⟨v', w', ?_, hL.setAt (r' := .row base el sz v' (n + m) (xs ++ ys)) i hi hown (fun b hb => ?_) (fun k hk hne => hg.block k hk (fun e => hne (show v.ownBlock = some k from e.symm))), ⟨hg.os.trans hE.os, hg.tape.trans hE.tape, hg.output.trans hE.output, Nat.le_trans hE.size hg.size, fun k hk hs => ?_⟩, fun b hb hne => hg.block b hb (fun e => hne e.symm)⟩
  · simp [execOp, h, resolve, invoke, builtin, hx, hy, hr]
  · change v'.ownBlock = some b at hb
    rcases hat with hat | hat
    · exact .inl (show v.ownBlock = some b by rw [← hat]; exact hb)
    · rw [hat] at hb
      injection hb with hb
      exact .inr (by omega)
  · rw [hg.block k (Nat.lt_of_lt_of_le hk hE.size) (fun e => by have := (ownsRow_lt hrow e.symm).2; omega)]
    exact hE.block k hk hs
end
/-! ### Going through a map -/
section
variable {κ ν : Type} [DecidableEq κ] {P : Program} {w : World} {ρ : Operand → Value} {o : Oper} {kt et t : TypeId} {enc : κ → Value} {venc : ν → Value} {m : List (κ × ν)} {b : Nat}
theorem r_range {x : Operand} (h : o.op = .range t x) (hu : P.underlying t = some (.map kt et)) (hx : ρ x = .map (some b)) (hb : w.heap[b]? = some (mapObj enc venc m)) : (execOp ρ o).run P w = .ok (.value (.pointer (some ⟨w.heap.size, 0, none⟩))) (w.alloc (.mapIter (some b) m.length #[] m.length)) := by
  simp only [execOp, h, Instr.range, Sem.run_bind, run_underlying hu, Result.andThen_ok, hx, getObj_map hb, mapObj, Sem.run_pure]
  simp
theorem filter_entsM (p : MapEntry → Bool) (i : Nat) (m : List (κ × ν)) (e : MapEntry) (h : e ∈ (entsM enc venc i m).filter p) : ∃ j q, m[j]? = some q ∧ e = ⟨enc q.1, venc q.2, i + j⟩ ∧ p e = true := by
  obtain ⟨h1, h2⟩ := List.mem_filter.1 h
  obtain ⟨j, hj⟩ := List.mem_iff_getElem?.1 h1
  rw [getElem?_entsM, Option.map_eq_some_iff] at hj
  obtain ⟨q, hq, rfl⟩ := hj
  exact ⟨j, q, hq, rfl, h2⟩
theorem r_next {x : Operand} {it : Nat} {seen : Array Nat} {S : Nat → Prop} {w0 : World} {L : List Res} (i : Nat) (h : o.op = .next x false) (hx : ρ x = .pointer (some ⟨it, 0, none⟩)) (hb : w.heap[b]? = some (mapObj enc venc m))
    (hL : Has w L) (hE : Ext S w0 w) (hi : L[i]? = some (.blk it (.mapIter (some b) m.length seen m.length))) (hS : it < w0.heap.size → S it) :
    ((∀ j, j < m.length → j ∈ seen) ∧ ∃ w' : World, (execOp ρ o).run P w = .ok (.value (.tuple #[.bool false])) w' ∧ Has w' L ∧ Ext S w0 w' ∧ (∀ k : Nat, w'.heap[k]? = w.heap[k]?)) ∨
    (∃ (j : Nat) (q : κ × ν) (w' : World), m[j]? = some q ∧ j ∉ seen ∧ (execOp ρ o).run P w = .ok (.value (.tuple #[.bool true, enc q.1, venc q.2])) w' ∧ Has w' (L.set i (.blk it (.mapIter (some b) m.length (seen.push j) m.length))) ∧ Ext S w0 w' ∧ (∀ k : Nat, k ≠ it → w'.heap[k]? = w.heap[k]?)) := by
  have hit := hL.get i hi
  have hgi : (getObj it).run P w = .ok (.mapIter (some b) m.length seen m.length) w := by simp [getObj, Sem.run, hit]
  have hltit : it < w.heap.size := (Array.getElem?_eq_some_iff.1 hit).1
  obtain ⟨left, hleft⟩ : ∃ left : Array MapEntry, left = (entsM enc venc 0 m).toArray.filter fun e => !seen.contains e.born := ⟨_, rfl⟩
  have hmem : ∀ e ∈ left, ∃ j q, m[j]? = some q ∧ e = ⟨enc q.1, venc q.2, j⟩ ∧ j ∉ seen := by
    intro e he
    have he' : e ∈ (entsM enc venc 0 m).filter fun e => !seen.contains e.born := by rw [hleft] at he; simpa using he
    obtain ⟨j, q, hq, rfl, hp⟩ := filter_entsM _ 0 m e he'
    exact ⟨j, q, hq, by simp, by simpa using hp⟩
  have hborn : ∀ e ∈ left, e.born < m.length := by
    intro e he
    obtain ⟨j, q, hq, rfl, _⟩ := hmem e he
    exact (List.getElem?_eq_some_iff.1 hq).1
  have hold : left.filter (·.born < m.length) = left := by
    apply Array.filter_eq_self.2
    intro e he
    simpa using hborn e he
  have hnew : left.filter (·.born ≥ m.length) = #[] := by
    rw [Array.filter_eq_empty_iff]
    intro e he
    have := hborn e he
    simpa using this
  have hgone : ((!seen.isEmpty && !(entsM enc venc 0 m).toArray.isEmpty && (entsM enc venc 0 m).toArray.all (·.born ≥ m.length)) = true) = False := by
    rw [eq_iff_iff, iff_false]
    cases m with
    | nil => simp [entsM]
    | cons p r => simp [entsM]
  by_cases he : left = #[]
  · refine .inl ⟨fun j hj => ?_, w, ?_, hL, hE, fun _ => rfl⟩
    · have h1 : (⟨enc (m[j]'hj).1, venc (m[j]'hj).2, 0 + j⟩ : MapEntry) ∈ entsM enc venc 0 m := List.mem_iff_getElem?.2 ⟨j, by rw [getElem?_entsM, List.getElem?_eq_getElem hj]; rfl⟩
      have h2 : ∀ e ∈ entsM enc venc 0 m, e.born ∈ seen := by
        have := Array.filter_eq_empty_iff.1 (hleft.symm.trans he)
        intro e hee
        simpa using this e (by simpa using hee)
      simpa using h2 _ h1
    · simp only [execOp, h, Instr.next, Sem.run_bind, hx, hgi, Result.andThen_ok, getObj_map hb, mapObj, hgone, if_false]
      rw [← hleft, hold, hnew, he]
      simp [choose, Sem.run, Question.forced]
  · have hne : left.isEmpty = false := by simpa using he
    have hsz : 0 < left.size := Array.size_pos_iff.2 he
    obtain ⟨nn, w1, hch, hlt, hw1⟩ : ∃ (nn : Nat) (w1 : World), (choose (.mapNext left.size)).run P w = .ok nn w1 ∧ nn < left.size ∧ (w1 = w ∨ w1 = w.drew) := by
      by_cases hf : (Question.mapNext left.size).forced = true
      · exact ⟨0, w, by simp [choose, Sem.run, hf], hsz, .inl rfl⟩
      · exact ⟨(Question.mapNext left.size).cut (w.tape w.drawn (.mapNext left.size)), w.drew, by simp [choose, Sem.run, hf], Nat.mod_lt _ hsz, .inr rfl⟩
    obtain ⟨j, q, hq, hent, hjs⟩ := hmem (left[nn]'hlt) (Array.getElem_mem hlt)
    have hit1 : w1.heap[it]? = some (.mapIter (some b) m.length seen m.length) := by rcases hw1 with rfl | rfl <;> exact hit
    have hset : (setObj it (.mapIter (some b) m.length (seen.push j) m.length)).run P w1 = .ok () { w1 with heap := w1.heap.setIfInBounds it (.mapIter (some b) m.length (seen.push j) m.length) } := by simp [setObj, Sem.run, hit1]
    have hk1 : ∀ k : Nat, w1.heap[k]? = w.heap[k]? := by rcases hw1 with rfl | rfl <;> exact fun _ => rfl
    have hs1 : w1.heap.size = w.heap.size := by rcases hw1 with rfl | rfl <;> rfl
    have hk : ∀ k : Nat, k ≠ it → ({ w1 with heap := w1.heap.setIfInBounds it (.mapIter (some b) m.length (seen.push j) m.length) } : World).heap[k]? = w.heap[k]? := fun k hk => by
      rw [← hk1 k]
      simp [Array.getElem?_setIfInBounds_ne (Ne.symm hk)]
    have hos : w1.os = w.os ∧ w1.tape = w.tape ∧ w1.output = w.output := by rcases hw1 with rfl | rfl <;> exact ⟨rfl, rfl, rfl⟩
    refine .inr ⟨j, q, { w1 with heap := w1.heap.setIfInBounds it (.mapIter (some b) m.length (seen.push j) m.length) }, hq, hjs, ?_, hL.setAt (r' := .blk it _) i hi (by simp [Res.holds, hs1, hltit]) (fun c hc => .inl hc) (fun k _ hne => hk k (fun e => hne (by rw [e]; rfl))), ⟨hos.1.trans hE.os, hos.2.1.trans hE.tape, hos.2.2.trans hE.output, by simp [hs1]; exact hE.size, fun k hk0 hs => ?_⟩, hk⟩
    · simp only [execOp, h, Instr.next, Sem.run_bind, hx, hgi, Result.andThen_ok, getObj_map hb, mapObj, hgone, if_false]
      rw [← hleft, hold, hnew, hne]
      have hcand : ((if false = true then #[none] else #[]) ++ Array.map some (left ++ #[])) = left.map some := by simp
      have hget : (left.map some)[nn]? = some (some ⟨enc q.1, venc q.2, j⟩) := by simp [hlt, hent]
      simp only [hcand, Array.size_map, hch, Result.andThen_ok, hget, Sem.run_bind, hset, Sem.run_pure]
    · rw [hk k (fun e => hs (by subst e; exact hS hk0))]
      exact hE.block k hk0 hs
theorem r_entry {x : Operand} {it j : Nat} {q : κ × ν} {seen : Array Nat} (h : o.op = .entry x) (hx : ρ x = .pointer (some ⟨it, 0, none⟩)) (hb : w.heap[b]? = some (mapObj enc venc m)) (hi : w.heap[it]? = some (.mapIter (some b) m.length (seen.push j) m.length)) (hj : m[j]? = some q) :
    (execOp ρ o).run P w = .ok (.value (.tuple #[enc q.1, venc q.2])) w := by
  have hgi : (getObj it).run P w = .ok (.mapIter (some b) m.length (seen.push j) m.length) w := by simp [getObj, Sem.run, hi]
  have hfind : (entsM enc venc 0 m).toArray.find? (·.born == j) = some ⟨enc q.1, venc q.2, j⟩ := by
    have key : ∀ (i : Nat) (m : List (κ × ν)) (j : Nat) (q : κ × ν), m[j]? = some q → (entsM enc venc i m).find? (fun e => e.born == i + j) = some ⟨enc q.1, venc q.2, i + j⟩ := by
      intro i m
      induction m generalizing i with
      | nil => intro j q h; simp at h
      | cons p r ih =>
        intro j q h
        cases j with
        | zero =>
          have : p = q := by simpa using h
          subst this
          simp [entsM, List.find?_cons]
        | succ j =>
          have hne : (i == i + (j + 1)) = false := by simp
          rw [entsM, List.find?_cons]
          simp only [hne]
          have := ih (i + 1) j q (by simpa using h)
          rw [show i + 1 + j = i + (j + 1) from by omega] at this
          exact this
    have := key 0 m j q hj
    simpa using this
  simp only [execOp, h, Instr.entry, Sem.run_bind, hx, hgi, Result.andThen_ok, getObj_map hb, mapObj]
  simp [getObj_map hb, mapObj, hfind]
end
end Go.Proofs.YtndophlnapjkhaaGreatDoor.Vc
namespace Go.Proofs.YtndophlnapjkhaaGreatDoor.Vc
open Go Go.RowKit
set_option linter.unusedSimpArgs false
set_option linter.unusedSectionVars false
section
variable {P : Program} {n : Nat} {Q : Post} {e : Env} {w : World} {ops : Array Oper} {rest : List Oper} {o : Oper}
theorem l_new {R : Value → World → Prop} {t : Nat} (hd : o.dst = some t) (ht : Nat.blt t n = true) (hw : Region.wanted o (yieldedE ops e) = true) (h : ∃ v w1, (execOp (ev e) o).run P w = .ok (.value v) w1 ∧ R v w1) (k : ∀ v w1, R v w1 → lwp P n ops Q rest (e.put t v) w1) : lwp P n ops Q (o :: rest) e w := by
  obtain ⟨v, w1, hr, hR⟩ := h
  exact l_val hd ht hw hr (k v w1 hR)
theorem l_new_do {R : World → Prop} (hd : o.dst = none) (hw : Region.wanted o (yieldedE ops e) = true) (h : ∃ w1, (execOp (ev e) o).run P w = .ok .skip w1 ∧ R w1) (k : ∀ w1, R w1 → lwp P n ops Q rest e w1) : lwp P n ops Q (o :: rest) e w := by
  obtain ⟨w1, hr, hR⟩ := h
  exact l_do hd hw hr (k w1 hR)
theorem l_by {f : FuncId} {args : List Value} {R : Ending → World → Prop} {t : Nat} (hd : o.dst = some t) (ht : Nat.blt t n = true) (hw : Region.wanted o (yieldedE ops e) = true) (h : (execOp (ev e) o).run P w = .ok (.enter f args.toArray) w) (hc : Calls P f args.toArray w R)
    (k : ∀ en w', R en w' → ∃ v, en = .returned v ∧ lwp P n ops Q rest (e.put t v) w') : lwp P n ops Q (o :: rest) e w := l_call hd ht hw h (hc.mono k)
variable {S : World → Prop} {fuel : Nat} {listed : Array Bool}
def Keep (L : List Res) (T : Nat → Prop) (w0 : World) : World → Prop := fun W => Has W L ∧ Ext T w0 W
theorem c_draw {id : Nat} {l : List Oper} {L : List Res} {T : Nat → Prop} {w0 : World} (hm : P.follows .mixedOrders = true) (_ : Has w L) (_ : Ext T w0 w) (h : hwp P n l.toArray Q (Keep L T w0) l.toArray.size (Array.replicate l.toArray.size false) e w.drew) : cwp P n (.region id l.toArray true) Q e w :=
  c_any (Keep L T w0) hm h
theorem h_new (i : Nat) {R : Value → World → Prop} {t : Nat} (hi : ops[i]? = some o) (hd : o.dst = some t) (hb : oneB n ops listed i t = true) (hw : Region.wanted o (yieldedE ops e) = true) (h : ∃ v w1, (execOp (ev e) o).run P w = .ok (.value v) w1 ∧ R v w1)
    (k : ∀ v w1, R v w1 → S w1 ∧ hwp P n ops Q S fuel (listed.setIfInBounds i true) (e.put t v) w1) : hwp P n ops Q S (fuel + 1) listed e w := by
  obtain ⟨v, w1, hr1, hR⟩ := h
  exact h_one i hi hd hb hw hr1 (k v w1 hR).1 (k v w1 hR).2
theorem h_new_do (i : Nat) {R : World → Prop} (hi : ops[i]? = some o) (hd : o.dst = none) (hb : oneB (n + 1) ops listed i 0 = true) (hw : Region.wanted o (yieldedE ops e) = true) (h : ∃ w1, (execOp (ev e) o).run P w = .ok .skip w1 ∧ R w1)
    (k : ∀ w1, R w1 → S w1 ∧ hwp P n ops Q S fuel (listed.setIfInBounds i true) e w1) : hwp P n ops Q S (fuel + 1) listed e w := by
  obtain ⟨w1, hr1, hR⟩ := h
  exact h_one_do i hi hd hb hw hr1 (k w1 hR).1 (k w1 hR).2
theorem h_by (i : Nat) {f : FuncId} {args : List Value} {R : Ending → World → Prop} {t : Nat} (hi : ops[i]? = some o) (hd : o.dst = some t) (hb : oneB n ops listed i t = true) (hw : Region.wanted o (yieldedE ops e) = true) (h : (execOp (ev e) o).run P w = .ok (.enter f args.toArray) w) (hc : Calls P f args.toArray w R)
    (k : ∀ en w', R en w' → ∃ v, en = .returned v ∧ S w' ∧ hwp P n ops Q S fuel (listed.setIfInBounds i true) (e.put t v) w') : hwp P n ops Q S (fuel + 1) listed e w := h_one_call i hi hd hb hw h (hc.mono k)
end
section
variable {P : Program} {w w0 : World} {ρ : Operand → Value} {o : Oper} {S : Nat → Prop} {L : List Res}
theorem n_box {t : TypeId} {x : Operand} (h : o.op = .box t x) (hL : Has w L) (hE : Ext S w0 w) :
    ∃ v w1, (execOp ρ o).run P w = .ok (.value v) w1 ∧ ∃ b, v = .pointer (some ⟨b, 0, none⟩) ∧ w0.heap.size ≤ b ∧ Has w1 (.blk b (.cells (ρ x).cells t (0, 0)) :: L) ∧ Ext S w0 w1 ∧ Ext0 w w1 :=
  ⟨_, _, r_box h, _, rfl, hE.size, hL.alloc _, hE.alloc _, (Ext.refl _ w).alloc _⟩
theorem n_alloc {t : TypeId} {z : Value} (h : o.op = .alloc t) (hz : ∀ w, (zeroValue t).run P w = .ok z w) (hL : Has w L) (hE : Ext S w0 w) :
    ∃ v w1, (execOp ρ o).run P w = .ok (.value v) w1 ∧ ∃ b, v = .pointer (some ⟨b, 0, none⟩) ∧ w0.heap.size ≤ b ∧ Has w1 (.blk b (.cells z.cells t (0, 0)) :: L) ∧ Ext S w0 w1 ∧ Ext0 w w1 :=
  ⟨_, _, r_alloc h hz, _, rfl, hE.size, hL.alloc _, hE.alloc _, (Ext.refl _ w).alloc _⟩
theorem n_makeMap {t : TypeId} (h : o.op = .makeMap t none) (hL : Has w L) (hE : Ext S w0 w) :
    ∃ v w1, (execOp ρ o).run P w = .ok (.value v) w1 ∧ ∃ b, v = .map (some b) ∧ w0.heap.size ≤ b ∧ Has w1 (.blk b (.map #[] 0) :: L) ∧ Ext S w0 w1 ∧ Ext0 w w1 :=
  ⟨_, _, r_makeMap h, _, rfl, hE.size, hL.alloc _, hE.alloc _, (Ext.refl _ w).alloc _⟩
theorem n_slice {t el : TypeId} {n sz : Nat} {ps : Array (Nat × Operand)} {z : Value} {cells : Array Value} (h : o.op = .buildSlice t n ps) (hu : P.underlying t = some (.slice el)) (hs : Sized P el sz) (hz : ∀ w, (zeroValue el).run P w = .ok z w) (hn0 : Nat.blt 0 (n * sz) = true) (hn : Nat.ble (n * sz) 16777216 = true)
    (hf : Instr.fill (fun i => some (i * sz, sz)) ((List.range (n * sz)).map (z.cells[· % z.cells.size]!)).toArray (ps.toList.map fun (i, x) => (i, ρ x)) = some cells) (hL : Has w L) (hE : Ext S w0 w) :
    ∃ v w1, (execOp ρ o).run P w = .ok (.value v) w1 ∧ ∃ b, v = .slice (some ⟨b, 0, none⟩) n n ∧ w0.heap.size ≤ b ∧ Has w1 (.blk b (.cells cells el (0, 0)) :: L) ∧ Ext S w0 w1 ∧ Ext0 w w1 :=
  ⟨_, _, r_buildSlice h hu hs hz hn0 hn hf, _, rfl, hE.size, hL.alloc _, hE.alloc _, (Ext.refl _ w).alloc _⟩
theorem n_slice0 {t el : TypeId} {sz : Nat} (h : o.op = .buildSlice t 0 #[]) (hu : P.underlying t = some (.slice el)) (hs : Sized P el sz) (hL : Has w L) (hE : Ext S w0 w) :
    ∃ v w1, (execOp ρ o).run P w = .ok (.value v) w1 ∧ ∃ b, v = .slice (some ⟨b, 0, none⟩) 0 0 ∧ w0.heap.size ≤ b ∧ Has w1 (.row w0.heap.size el sz v 0 [] :: L) ∧ Ext S w0 w1 ∧ Ext0 w w1 := by
  refine ⟨_, _, r_buildSlice0 h hu hs, _, rfl, hE.size, ?_, hE.alloc _, (Ext.refl _ w).alloc _⟩
  have hown : World.ownsRow (w.alloc (.cells #[] el)) w0.heap.size el sz (.slice (some ⟨w.heap.size, 0, none⟩) 0 0) 0 [] := ⟨by rw [Nat.zero_mul]; rfl, .inr ⟨w.heap.size, 0, #[], rfl, hE.size, (MapKept.heap_alloc w _).1, Nat.le_refl _, Nat.zero_le _, by rw [Nat.zero_mul]; rfl, by simp⟩⟩
  refine hL.cons ((Ext.refl _ w).alloc _) (r := .row w0.heap.size el sz (.slice (some ⟨w.heap.size, 0, none⟩) 0 0) 0 []) hown (fun b hb => ?_)
  simp [Res.foot, Value.ownBlock] at hb
  omega
theorem Has.asRow {w : World} {L : List Res} {b el sz n : Nat} {cs : Array Value} (h : Has w (.blk b (.cells cs el (0, 0)) :: L)) {base : Nat} (hb : base ≤ b) (hn : cs.size = n * sz) (hm : n ≤ 9223372036854775807) : Has w (.row base el sz (.slice (some ⟨b, 0, none⟩) n n) n cs.toList :: L) := by
  have hown : w.ownsRow base el sz (.slice (some ⟨b, 0, none⟩) n n) n cs.toList := ⟨hn, .inr ⟨b, n, cs, rfl, hb, h.1, Nat.le_refl _, by unfold maxLen; omega, hn, by rw [← hn]; exact List.take_length⟩⟩
  refine ⟨hown, fun q hq c hc => h.2.1 q hq c ?_, h.2.2⟩
  simpa [Res.foot, Value.ownBlock] using hc
end
end Go.Proofs.YtndophlnapjkhaaGreatDoor.Vc
namespace Go.Proofs.YtndophlnapjkhaaGreatDoor.Vc
open Go Go.RowKit
set_option linter.unusedSimpArgs false
set_option linter.unusedSectionVars false
def Cells (w W : World) : Prop := ∀ a v, w.cell? a = some v → W.cell? a = some v
theorem Cells.refl (w : World) : Cells w w := fun _ _ h => h
theorem Cells.trans {w w1 w2 : World} (h : Cells w w1) (k : Cells w1 w2) : Cells w w2 := fun a v hc => k a v (h a v hc)
theorem Ext0.cells {w W : World} (h : Ext0 w W) : Cells w W := fun _ _ hc => h.cell hc (fun hf => hf)
def NoCells (S : Nat → Prop) (w : World) : Prop := ∀ k, S k → ∀ c t f, w.heap[k]? ≠ some (.cells c t f)
theorem Ext.cells {S : Nat → Prop} {w W : World} (h : Ext S w W) (hs : NoCells S w) : Cells w W := fun _ _ hc => h.cell_map hs hc
def adr (A : Option Addr) : Addr := A.getD ⟨0, 0, none⟩
theorem adr_add (a : Addr) (m j : Nat) : (a.add m).add j = a.add (m + j) := by
  unfold Addr.add
  by_cases h1 : m = 0 <;> by_cases h2 : j = 0 <;> simp [h1, h2, Nat.add_assoc]
structure Sl {α : Type} (w : World) (sz : Nat) (R : World → α → List Value → Prop) (A : Option Addr) (n c : Nat) (xs : List α) : Prop where
  len : xs.length = n
  cap : n ≤ c
  max : n ≤ 9223372036854775807
  is : 0 < n → A.isSome = true
  at_ : ∀ i x, xs[i]? = Option.some x → ∃ cs, cs.length = sz ∧ R w x cs ∧ ∀ j v, cs[j]? = Option.some v → w.cell? ((adr A).add (i * sz + j)) = Option.some v
def Kept {α : Type} (R : World → α → List Value → Prop) : Prop := ∀ w W x cs, Cells w W → R w x cs → R W x cs
section
variable {α : Type} {w W : World} {sz n c : Nat} {R : World → α → List Value → Prop} {A : Option Addr} {xs : List α}
theorem Sl.keep (hR : Kept R) (h : Sl w sz R A n c xs) (hc : Cells w W) : Sl W sz R A n c xs :=
  ⟨h.len, h.cap, h.max, h.is, fun i x hi => let ⟨cs, h1, h2, h3⟩ := h.at_ i x hi; ⟨cs, h1, hR _ _ _ _ hc h2, fun j v hj => hc _ _ (h3 j v hj)⟩⟩
theorem Sl.nil (w : World) (sz : Nat) (R : World → α → List Value → Prop) (A : Option Addr) (c : Nat) : Sl w sz R A 0 c ([] : List α) := ⟨rfl, Nat.zero_le _, by omega, fun h => absurd h (by omega), fun i x h => by simp at h⟩
theorem Sl.get (h : Sl w sz R A n c xs) (d : α) (i : Int) (h0 : 0 ≤ i) (h1 : i < n) : ∃ cs, cs.length = sz ∧ R w (xs.getD i.toNat d) cs ∧ ∀ j v, cs[j]? = Option.some v → w.cell? (((adr A).add (i.toNat * sz)).add j) = Option.some v := by
  have hl : i.toNat < xs.length := by have := h.len; omega
  obtain ⟨cs, h1, h2, h3⟩ := h.at_ i.toNat _ (List.getElem?_eq_getElem hl)
  refine ⟨cs, h1, ?_, fun j v hj => by rw [adr_add]; exact h3 j v hj⟩
  rw [List.getD_eq_getElem?_getD, List.getElem?_eq_getElem hl]
  exact h2
end
def RInt (_ : World) (x : Int) (cs : List Value) : Prop := cs = [.int .i64 x]
def RStr (_ : World) (x : ByteArray) (cs : List Value) : Prop := cs = [.string x]
theorem RInt.kept : Kept RInt := fun _ _ _ _ _ h => h
theorem RStr.kept : Kept RStr := fun _ _ _ _ _ h => h
section
variable {w : World} {n c : Nat} {A : Option Addr}
theorem Sl.int {xs : List Int} (h : Sl w 1 RInt A n c xs) (i : Int) (h0 : 0 ≤ i) (h1 : i < n) : w.cell? ((adr A).add (i.toNat * 1)) = some (.int .i64 (xs.getD i.toNat 0)) := by
  obtain ⟨cs, _, h2, h3⟩ := h.get 0 i h0 h1
  rw [h2] at h3
  have := h3 0 _ rfl
  rw [adr_add, Nat.add_zero] at this
  exact this
theorem Sl.str {xs : List ByteArray} (h : Sl w 1 RStr A n c xs) (i : Int) (h0 : 0 ≤ i) (h1 : i < n) : w.cell? ((adr A).add (i.toNat * 1)) = some (.string (xs.getD i.toNat ByteArray.empty)) := by
  obtain ⟨cs, _, h2, h3⟩ := h.get ByteArray.empty i h0 h1
  rw [h2] at h3
  have := h3 0 _ rfl
  rw [adr_add, Nat.add_zero] at this
  exact this
end
theorem Sl.ofBlk1 {α : Type} {R : World → α → List Value → Prop} {w : World} {b : Nat} {cs : Array Value} {t : TypeId} {fr : Nat × Nat} {xs : List α} {n c : Nat} (hb : w.heap[b]? = some (.cells cs t fr)) (hn : xs.length = n) (hc : n ≤ c) (hm : n ≤ 9223372036854775807) (h : ∀ (i : Nat) (x : α), xs[i]? = some x → ∃ v, cs[i]? = some v ∧ R w x [v]) : Sl w 1 R (some ⟨b, 0, none⟩) n c xs :=
  ⟨hn, hc, hm, fun _ => rfl, fun i x hi => by
    obtain ⟨v, hv, hR⟩ := h i x hi
    refine ⟨[v], rfl, hR, fun j u hj => ?_⟩
    cases j with
    | zero =>
      have : v = u := by simpa using hj
      subst this
      rw [show (adr (some (⟨b, 0, none⟩ : Addr))) = ⟨b, 0, none⟩ from rfl, blk_add, blk_cell hb]
      simpa using hv
    | succ j => simp at hj⟩
section
variable {P : Program} {w : World} {ρ : Operand → Value} {o : Oper}
theorem r_indexAddr_sl {t el : TypeId} {x ix : Operand} {k : IntKind} {i : Int} {A : Option Addr} {len cap n : Nat} (h : o.op = .indexAddr t x ix) (hu : P.underlying t = some (.slice el)) (hs : Sized P el n) (hx : ρ x = .slice A len cap) (hA : 0 < len → A.isSome = true) (hi : ρ ix = .int k i) (h0 : 0 ≤ i) (h1 : i < len) :
    (execOp ρ o).run P w = .ok (.value (.pointer (some ((adr A).add (i.toNat * n))))) w := by
  cases A with
  | none => have := hA (by omega); cases this
  | some a => exact r_indexAddr h hu hs hx hi h0 h1
end
end Go.Proofs.YtndophlnapjkhaaGreatDoor.Vc
namespace Go.Proofs.YtndophlnapjkhaaGreatDoor.Vc
open Go Go.RowKit
structure GNode where
  kind : Int
  num : Int
  name : ByteArray
  keys : List ByteArray
  l : List Int
deriving DecidableEq
structure Fact where
  a : Int
  b : Int
  why : List Int
deriving DecidableEq
def GNode.nil : GNode := ⟨0, 0, ByteArray.empty, [], []⟩
def Fact.nil : Fact := ⟨0, 0, []⟩
def nodeCells (x : GNode) (Ak : Option Addr) (ck : Nat) (Al : Option Addr) (cl : Nat) : List Value := [.int .i64 x.kind, .int .i64 x.num, .string x.name, .slice Ak x.keys.length ck, .slice Al x.l.length cl]
def RNode (w : World) (x : GNode) (cs : List Value) : Prop := ∃ Ak ck Al cl, cs = nodeCells x Ak ck Al cl ∧ Sl w 1 RStr Ak x.keys.length ck x.keys ∧ Sl w 1 RInt Al x.l.length cl x.l
def RFact (w : World) (x : Fact) (cs : List Value) : Prop := ∃ A c, cs = [.int .i64 x.a, .int .i64 x.b, .slice A x.why.length c] ∧ Sl w 1 RInt A x.why.length c x.why
def RPair (_ : World) (x : Int × Int) (cs : List Value) : Prop := cs = [.int .i64 x.1, .int .i64 x.2]
theorem RNode.kept : Kept RNode := fun _ _ _ _ hc ⟨Ak, ck, Al, cl, h, h1, h2⟩ => ⟨Ak, ck, Al, cl, h, h1.keep RStr.kept hc, h2.keep RInt.kept hc⟩
theorem RFact.kept : Kept RFact := fun _ _ _ _ hc ⟨A, c, h, h1⟩ => ⟨A, c, h, h1.keep RInt.kept hc⟩
theorem RPair.kept : Kept RPair := fun _ _ _ _ _ h => h
abbrev Nodes (w : World) (A : Option Addr) (c : Nat) (g : List GNode) : Prop := Sl w 5 RNode A g.length c g
abbrev FactsAt (w : World) (A : Option Addr) (c : Nat) (l : List Fact) : Prop := Sl w 3 RFact A l.length c l
abbrev Ints (w : World) (A : Option Addr) (c : Nat) (l : List Int) : Prop := Sl w 1 RInt A l.length c l
abbrev Strs (w : World) (A : Option Addr) (c : Nat) (l : List ByteArray) : Prop := Sl w 1 RStr A l.length c l
abbrev PairsAt (w : World) (A : Option Addr) (c : Nat) (l : List (Int × Int)) : Prop := Sl w 2 RPair A l.length c l
def gat (g : List GNode) (i : Int) : GNode := g.getD i.toNat GNode.nil
def fat (l : List Fact) (i : Int) : Fact := l.getD i.toNat Fact.nil
def iat (l : List Int) (i : Int) : Int := l.getD i.toNat 0
theorem Sl.node {w : World} {A : Option Addr} {c n : Nat} {g : List GNode} (h : Sl w 5 RNode A n c g) (i : Int) (h0 : 0 ≤ i) (h1 : i < n) :
    ∃ Ak ck Al cl, (∀ j v, (nodeCells (gat g i) Ak ck Al cl)[j]? = some v → w.cell? (((adr A).add (i.toNat * 5)).add j) = some v) ∧ Strs w Ak ck (gat g i).keys ∧ Ints w Al cl (gat g i).l := by
  obtain ⟨cs, _, ⟨Ak, ck, Al, cl, rfl, h2, h3⟩, h4⟩ := h.get GNode.nil i h0 h1
  exact ⟨Ak, ck, Al, cl, h4, h2, h3⟩
theorem Sl.fact {w : World} {A : Option Addr} {c n : Nat} {l : List Fact} (h : Sl w 3 RFact A n c l) (i : Int) (h0 : 0 ≤ i) (h1 : i < n) :
    ∃ A1 c1, (∀ j v, ([.int .i64 (fat l i).a, .int .i64 (fat l i).b, .slice A1 (fat l i).why.length c1] : List Value)[j]? = some v → w.cell? (((adr A).add (i.toNat * 3)).add j) = some v) ∧ Ints w A1 c1 (fat l i).why := by
  obtain ⟨cs, _, ⟨A1, c1, rfl, h2⟩, h4⟩ := h.get Fact.nil i h0 h1
  exact ⟨A1, c1, h4, h2⟩
theorem Sl.pair {w : World} {A : Option Addr} {c n : Nat} {l : List (Int × Int)} (h : Sl w 2 RPair A n c l) (i : Int) (h0 : 0 ≤ i) (h1 : i < n) :
    ∀ j v, ([.int .i64 (l.getD i.toNat (0, 0)).1, .int .i64 (l.getD i.toNat (0, 0)).2] : List Value)[j]? = some v → w.cell? (((adr A).add (i.toNat * 2)).add j) = some v := by
  obtain ⟨cs, _, h2, h4⟩ := h.get (0, 0) i h0 h1
  rw [h2] at h4
  exact h4
end Go.Proofs.YtndophlnapjkhaaGreatDoor.Vc
namespace Go.Proofs.YtndophlnapjkhaaGreatDoor.Vc
open Go Go.RowKit
def findS {σ α : Type} (p : σ → α → Bool × σ) : Nat → σ → List α → Option Nat × σ
  | _, s, [] => (none, s)
  | k, s, x :: r => if (p s x).1 then (some k, (p s x).2) else findS p (k + 1) (p s x).2 r
def idxV : Option Nat → Int
  | some k => k
  | none => -1
theorem idxV_ge (o : Option Nat) : decide (0 ≤ idxV o) = o.isSome := by
  cases o with
  | none => rfl
  | some k => simp [idxV]
def Tests {σ α : Type} (P : Program) (St : σ → World → Prop) (T : Nat → Prop) (D : World → Value → α → Prop) (p : σ → α → Bool × σ) (fv : Value) : Prop :=
  ∃ g fs cs fn c, fv = .func (.func g) fs cs ∧ P.funcs[g]? = some fn ∧ (fn.name == "runtime.NumGoroutine") = false ∧ fn.body = some c ∧
    ∀ s x v W, St s W → D W v x → Calls P g (fs.toList ++ ([v] ++ cs.toList)).toArray W fun en w' => en = .returned (.bool (p s x).1) ∧ Ext T W w' ∧ St (p s x).2 w'
def D1 {α : Type} (R : World → α → List Value → Prop) (W : World) (v : Value) (x : α) : Prop := R W x [v]
def DN {α : Type} (R : World → α → List Value → Prop) (sz : Nat) (W : World) (v : Value) (x : α) : Prop := ∃ cs, cs.length = sz ∧ R W x cs ∧ v = .agg cs.toArray
theorem findS_pure {α : Type} (p : α → Bool) (s : Unit) : ∀ (k : Nat) (l : List α), (findS (fun _ x => (p x, ())) k s l).1.isSome = l.any p
  | _, [] => rfl
  | k, x :: r => by
    simp only [findS, List.any_cons]
    cases h : p x with
    | true => simp
    | false => simpa using findS_pure p () (k + 1) r
theorem findS_step {σ α : Type} (p : σ → α → Bool × σ) (s : σ) (l : List α) (k : Nat) (x : α) (h : l[k]? = some x) : findS p k s (l.drop k) = if (p s x).1 then (some k, (p s x).2) else findS p (k + 1) (p s x).2 (l.drop (k + 1)) := by
  have hk : k < l.length := (List.getElem?_eq_some_iff.1 h).1
  rw [List.drop_eq_getElem_cons hk]
  have : l[k] = x := (List.getElem?_eq_some_iff.1 h).2
  rw [this, findS]
theorem findS_end {σ α : Type} (p : σ → α → Bool × σ) (s : σ) (l : List α) (k : Nat) (h : l.length ≤ k) : findS p k s (l.drop k) = (none, s) := by
  rw [List.drop_eq_nil_of_le h]
  rfl
theorem wrap_small {i : Int} (h0 : -9223372036854775808 ≤ i) (h1 : i ≤ 9223372036854775807) : IntKind.i64.wrap i = i := by
  exact IntWalk.i64_in _ ⟨h0, h1⟩
theorem wrap_succ {k n : Nat} (h : k < n) (hn : n ≤ 9223372036854775807) : IntKind.i64.wrap ((k : Int) + 1) = ((k + 1 : Nat) : Int) := by
  rw [wrap_small (by omega) (by omega)]
  omega
end Go.Proofs.YtndophlnapjkhaaGreatDoor.Vc
namespace Go.Proofs.YtndophlnapjkhaaGreatDoor.Vc
open Go Go.RowKit
set_option linter.unusedVariables false
set_option linter.unusedSimpArgs false
theorem mixed : Tryz.prog.follows .mixedOrders = true := by kernel_rfl
theorem IndexFunc_int {σ α : Type} (St : σ → World → Prop) (T : Nat → Prop) (R : World → α → List Value → Prop) (p : σ → α → Bool × σ) (w0 : World) (A : Option Addr) (n c : Nat) (xs : List α) (fv : Value) (s0 : σ)
    (hx : ∀ W, Ext T w0 W → Sl W 1 R A n c xs) (hf : Tests Tryz.prog St T (D1 R) p fv) (hs : St s0 w0) :
    Calls Tryz.prog 64 [.slice A n c, fv].toArray w0 fun en w' => en = .returned (.int .i64 (idxV (findS p 0 s0 xs).1)) ∧ Ext T w0 w' ∧ St (findS p 0 s0 xs).2 w' := by
  obtain ⟨g, fs, cs, fn, cd, rfl, hfn, hname, hbody, hcall⟩ := hf
  have hE : Ext T w0 w0 := Ext.refl _ _
  have hlen : xs.length = n := (hx w0 hE).len
  have hmax : n ≤ 9223372036854775807 := (hx w0 hE).max
  have hsome : 0 < n → A.isSome = true := (hx w0 hE).is
  refine calls [4] Tryz.func64 rfl rfl rfl rfl ?_
  refine c_seq ?_
  refine c_ops ?_
  refine l_val rfl rfl rfl (r_assign rfl) ?_
  refine l_nil ?_
  refine c_seq ?_
  refine c_seq ?_
  refine c_ops ?_
  refine l_val rfl rfl rfl (r_move rfl) ?_
  refine l_val rfl rfl rfl (r_len rfl Tryz.underlying26 rfl) ?_
  refine l_val rfl rfl rfl (r_move rfl) ?_
  refine l_nil ?_
  refine c_block ?_
  refine c_loop [4, 5, 8, 9, 10, 11, 12, 13, 14, 15, 16, 17, 18] (fun m e w => ∃ k s, k ≤ n ∧ m = n - k ∧ e 8 = .int .i64 (k : Nat) ∧ findS p 0 s0 xs = findS p k s (xs.drop k) ∧ St s w ∧ Ext T w0 w) n ?_ ?_
  · exact ⟨0, s0, Nat.zero_le _, rfl, rfl, rfl, hs, hE⟩
  intro m e w hI
  obtain ⟨k, s, hk, hm, h8, hfind, hs, hE⟩ := hI
  refine c_know h8 ?_
  refine c_seq ?_
  refine c_ops ?_
  refine l_val rfl rfl rfl (r_lss rfl rfl rfl) ?_
  refine l_nil ?_
  refine c_seq ?_
  refine c_cond rfl (fun hb => ?_) (fun hb => ?_)
  · replace hb := of_decide_eq_true hb
    have hkn : k < n := by omega
    obtain ⟨x, hxk⟩ : ∃ x, xs[k]? = some x := ⟨xs[k]'(by omega), List.getElem?_eq_getElem (by omega)⟩
    obtain ⟨cs1, hcl, hR, hcell⟩ := (hx w hE).at_ k x hxk
    obtain ⟨v1, rfl⟩ : ∃ v1, cs1 = [v1] := List.length_eq_one_iff.1 hcl
    have hcell' : w.cell? ((adr A).add ((k : Int).toNat * 1)) = some v1 := by rw [Int.toNat_natCast]; exact hcell 0 v1 rfl
    have hstep := findS_step p s xs k x hxk
    refine c_skip ?_
    refine c_seq ?_
    refine c_block ?_
    refine c_seq ?_
 
    refine c_ops ?_
    refine l_val rfl rfl rfl (r_move rfl) ?_
    refine l_val rfl rfl rfl (r_assign rfl) ?_
    refine l_nil ?_
    refine c_seq ?_
 
    refine c_ops ?_
    refine l_val rfl rfl rfl (r_move rfl) ?_
    refine l_val rfl rfl rfl (r_move rfl) ?_
    refine l_val rfl rfl rfl (r_move rfl) ?_
    refine l_val rfl rfl rfl (r_indexAddr_sl rfl Tryz.underlying26 Tryz.sizeOf3 rfl hsome rfl (Int.natCast_nonneg _) (by omega)) ?_
    refine l_val rfl rfl rfl (r_load rfl Tryz.isAgg3 rfl hcell') ?_
    refine l_by rfl rfl rfl (r_call rfl rfl hfn hname hbody) (hcall s x v1 w hs hR) ?_
    rintro _ w ⟨rfl, hX, hs⟩
    replace hE := hE.trans hX
    refine ⟨_, rfl, ?_⟩
    refine l_nil ?_
    refine c_cond rfl (fun hb => ?_) (fun hb => ?_)
    · refine c_seq ?_
   
      refine c_ops ?_
      refine l_val rfl rfl rfl (r_move rfl) ?_
      refine l_val rfl rfl rfl (r_assign rfl) ?_
      refine l_nil ?_
      refine c_ret ?_
      exact ⟨by rw [hfind, hstep, hb]; rfl, hE, by rw [hfind, hstep, hb]; exact hs⟩
    · have hfind' : findS p 0 s0 xs = findS p (k + 1) (p s x).2 (xs.drop (k + 1)) := by rw [hfind, hstep, hb]; rfl
      refine c_skip ?_
   
      refine c_ops ?_
      refine l_val rfl rfl rfl (r_add rfl rfl rfl) ?_
      refine l_val rfl rfl rfl (r_move rfl) ?_
      refine l_nil ?_
      refine ⟨by repeat (first | exact Agree.over _ _ _ | (refine Agree.puto ?_ _ _ rfl) | (refine Agree.put ?_ _ _ rfl) | (refine Agree.sub ?_ rfl)), ?_⟩
      exact ⟨n - (k + 1), by omega, k + 1, (p s x).2, by omega, rfl, by show Value.int .i64 (IntKind.i64.wrap ((k : Int) + 1)) = _; rw [wrap_succ hkn hmax], hfind', hs, hE⟩
  · replace hb := of_decide_eq_false hb
    have hkn : n ≤ k := by omega
    refine c_exit ?_
    refine c_seq ?_
 
    refine c_ops ?_
    refine l_val rfl rfl rfl (r_assign rfl) ?_
    refine l_nil ?_
    refine c_ret ?_
    exact ⟨by rw [hfind, findS_end p s xs k (by omega)]; rfl, hE, by rw [hfind, findS_end p s xs k (by omega)]; exact hs⟩
theorem ContainsFunc_int {σ α : Type} (St : σ → World → Prop) (T : Nat → Prop) (R : World → α → List Value → Prop) (p : σ → α → Bool × σ) (w0 : World) (A : Option Addr) (n c : Nat) (xs : List α) (fv : Value) (s0 : σ)
    (hx : ∀ W, Ext T w0 W → Sl W 1 R A n c xs) (hf : Tests Tryz.prog St T (D1 R) p fv) (hs : St s0 w0) :
    Calls Tryz.prog 42 [.slice A n c, fv].toArray w0 fun en w' => en = .returned (.bool (findS p 0 s0 xs).1.isSome) ∧ Ext T w0 w' ∧ St (findS p 0 s0 xs).2 w' := by
  refine calls [4] Tryz.func42 rfl rfl rfl rfl ?_
  refine c_seq ?_
  refine c_ops ?_
  refine l_val rfl rfl rfl (r_assign rfl) ?_
  refine l_nil ?_
  refine c_seq ?_
  refine c_ops ?_
  refine l_val rfl rfl rfl (r_move rfl) ?_
  refine l_val rfl rfl rfl (r_move rfl) ?_
  refine l_by rfl rfl rfl (r_call rfl rfl Tryz.func64 rfl rfl) (IndexFunc_int St T R p w0 A n c xs fv s0 hx hf hs) ?_
  rintro _ w ⟨rfl, hX, hs⟩
  refine ⟨_, rfl, ?_⟩
  refine l_val rfl rfl rfl (r_geq rfl rfl rfl) ?_
  refine l_val rfl rfl rfl (r_assign rfl) ?_
  refine l_nil ?_
  refine c_ret ?_
  exact ⟨congrArg (fun b => Ending.returned (.bool b)) (idxV_ge _), hX, hs⟩
theorem IndexFunc_str {σ α : Type} (St : σ → World → Prop) (T : Nat → Prop) (R : World → α → List Value → Prop) (p : σ → α → Bool × σ) (w0 : World) (A : Option Addr) (n c : Nat) (xs : List α) (fv : Value) (s0 : σ)
    (hx : ∀ W, Ext T w0 W → Sl W 1 R A n c xs) (hf : Tests Tryz.prog St T (D1 R) p fv) (hs : St s0 w0) :
    Calls Tryz.prog 89 [.slice A n c, fv].toArray w0 fun en w' => en = .returned (.int .i64 (idxV (findS p 0 s0 xs).1)) ∧ Ext T w0 w' ∧ St (findS p 0 s0 xs).2 w' := by
  obtain ⟨g, fs, cs, fn, cd, rfl, hfn, hname, hbody, hcall⟩ := hf
  have hE : Ext T w0 w0 := Ext.refl _ _
  have hlen : xs.length = n := (hx w0 hE).len
  have hmax : n ≤ 9223372036854775807 := (hx w0 hE).max
  have hsome : 0 < n → A.isSome = true := (hx w0 hE).is
  refine calls [4] Tryz.func89 rfl rfl rfl rfl ?_
  refine c_seq ?_
  refine c_ops ?_
  refine l_val rfl rfl rfl (r_assign rfl) ?_
  refine l_nil ?_
  refine c_seq ?_
  refine c_seq ?_
  refine c_ops ?_
  refine l_val rfl rfl rfl (r_move rfl) ?_
  refine l_val rfl rfl rfl (r_len rfl Tryz.underlying44 rfl) ?_
  refine l_val rfl rfl rfl (r_move rfl) ?_
  refine l_nil ?_
  refine c_block ?_
  refine c_loop [4, 5, 8, 9, 10, 11, 12, 13, 14, 15, 16, 17, 18] (fun m e w => ∃ k s, k ≤ n ∧ m = n - k ∧ e 8 = .int .i64 (k : Nat) ∧ findS p 0 s0 xs = findS p k s (xs.drop k) ∧ St s w ∧ Ext T w0 w) n ?_ ?_
  · exact ⟨0, s0, Nat.zero_le _, rfl, rfl, rfl, hs, hE⟩
  intro m e w hI
  obtain ⟨k, s, hk, hm, h8, hfind, hs, hE⟩ := hI
  refine c_know h8 ?_
  refine c_seq ?_
  refine c_ops ?_
  refine l_val rfl rfl rfl (r_lss rfl rfl rfl) ?_
  refine l_nil ?_
  refine c_seq ?_
  refine c_cond rfl (fun hb => ?_) (fun hb => ?_)
  · replace hb := of_decide_eq_true hb
    have hkn : k < n := by omega
    obtain ⟨x, hxk⟩ : ∃ x, xs[k]? = some x := ⟨xs[k]'(by omega), List.getElem?_eq_getElem (by omega)⟩
    obtain ⟨cs1, hcl, hR, hcell⟩ := (hx w hE).at_ k x hxk
    obtain ⟨v1, rfl⟩ : ∃ v1, cs1 = [v1] := List.length_eq_one_iff.1 hcl
    have hcell' : w.cell? ((adr A).add ((k : Int).toNat * 1)) = some v1 := by rw [Int.toNat_natCast]; exact hcell 0 v1 rfl
    have hstep := findS_step p s xs k x hxk
    refine c_skip ?_
    refine c_seq ?_
    refine c_block ?_
    refine c_seq ?_
 
    refine c_ops ?_
    refine l_val rfl rfl rfl (r_move rfl) ?_
    refine l_val rfl rfl rfl (r_assign rfl) ?_
    refine l_nil ?_
    refine c_seq ?_
 
    refine c_ops ?_
    refine l_val rfl rfl rfl (r_move rfl) ?_
    refine l_val rfl rfl rfl (r_move rfl) ?_
    refine l_val rfl rfl rfl (r_move rfl) ?_
    refine l_val rfl rfl rfl (r_indexAddr_sl rfl Tryz.underlying44 Tryz.sizeOf9 rfl hsome rfl (Int.natCast_nonneg _) (by omega)) ?_
    refine l_val rfl rfl rfl (r_load rfl Tryz.isAgg9 rfl hcell') ?_
    refine l_by rfl rfl rfl (r_call rfl rfl hfn hname hbody) (hcall s x v1 w hs hR) ?_
    rintro _ w ⟨rfl, hX, hs⟩
    replace hE := hE.trans hX
    refine ⟨_, rfl, ?_⟩
    refine l_nil ?_
    refine c_cond rfl (fun hb => ?_) (fun hb => ?_)
    · refine c_seq ?_
   
      refine c_ops ?_
      refine l_val rfl rfl rfl (r_move rfl) ?_
      refine l_val rfl rfl rfl (r_assign rfl) ?_
      refine l_nil ?_
      refine c_ret ?_
      exact ⟨by rw [hfind, hstep, hb]; rfl, hE, by rw [hfind, hstep, hb]; exact hs⟩
    · have hfind' : findS p 0 s0 xs = findS p (k + 1) (p s x).2 (xs.drop (k + 1)) := by rw [hfind, hstep, hb]; rfl
      refine c_skip ?_
   
      refine c_ops ?_
      refine l_val rfl rfl rfl (r_add rfl rfl rfl) ?_
      refine l_val rfl rfl rfl (r_move rfl) ?_
      refine l_nil ?_
      refine ⟨by repeat (first | exact Agree.over _ _ _ | (refine Agree.puto ?_ _ _ rfl) | (refine Agree.put ?_ _ _ rfl) | (refine Agree.sub ?_ rfl)), ?_⟩
      exact ⟨n - (k + 1), by omega, k + 1, (p s x).2, by omega, rfl, by show Value.int .i64 (IntKind.i64.wrap ((k : Int) + 1)) = _; rw [wrap_succ hkn hmax], hfind', hs, hE⟩
  · replace hb := of_decide_eq_false hb
    have hkn : n ≤ k := by omega
    refine c_exit ?_
    refine c_seq ?_
 
    refine c_ops ?_
    refine l_val rfl rfl rfl (r_assign rfl) ?_
    refine l_nil ?_
    refine c_ret ?_
    exact ⟨by rw [hfind, findS_end p s xs k (by omega)]; rfl, hE, by rw [hfind, findS_end p s xs k (by omega)]; exact hs⟩
theorem ContainsFunc_str {σ α : Type} (St : σ → World → Prop) (T : Nat → Prop) (R : World → α → List Value → Prop) (p : σ → α → Bool × σ) (w0 : World) (A : Option Addr) (n c : Nat) (xs : List α) (fv : Value) (s0 : σ)
    (hx : ∀ W, Ext T w0 W → Sl W 1 R A n c xs) (hf : Tests Tryz.prog St T (D1 R) p fv) (hs : St s0 w0) :
    Calls Tryz.prog 72 [.slice A n c, fv].toArray w0 fun en w' => en = .returned (.bool (findS p 0 s0 xs).1.isSome) ∧ Ext T w0 w' ∧ St (findS p 0 s0 xs).2 w' := by
  refine calls [4] Tryz.func72 rfl rfl rfl rfl ?_
  refine c_seq ?_
  refine c_ops ?_
  refine l_val rfl rfl rfl (r_assign rfl) ?_
  refine l_nil ?_
  refine c_seq ?_
  refine c_ops ?_
  refine l_val rfl rfl rfl (r_move rfl) ?_
  refine l_val rfl rfl rfl (r_move rfl) ?_
  refine l_by rfl rfl rfl (r_call rfl rfl Tryz.func89 rfl rfl) (IndexFunc_str St T R p w0 A n c xs fv s0 hx hf hs) ?_
  rintro _ w ⟨rfl, hX, hs⟩
  refine ⟨_, rfl, ?_⟩
  refine l_val rfl rfl rfl (r_geq rfl rfl rfl) ?_
  refine l_val rfl rfl rfl (r_assign rfl) ?_
  refine l_nil ?_
  refine c_ret ?_
  exact ⟨congrArg (fun b => Ending.returned (.bool b)) (idxV_ge _), hX, hs⟩
theorem IndexFunc_fact {σ α : Type} (St : σ → World → Prop) (T : Nat → Prop) (R : World → α → List Value → Prop) (p : σ → α → Bool × σ) (w0 : World) (A : Option Addr) (n c : Nat) (xs : List α) (fv : Value) (s0 : σ)
    (hx : ∀ W, Ext T w0 W → Sl W 3 R A n c xs) (hf : Tests Tryz.prog St T (DN R 3) p fv) (hs : St s0 w0) :
    Calls Tryz.prog 35 [.slice A n c, fv].toArray w0 fun en w' => en = .returned (.int .i64 (idxV (findS p 0 s0 xs).1)) ∧ Ext T w0 w' ∧ St (findS p 0 s0 xs).2 w' := by
  obtain ⟨g, fs, cs, fn, cd, rfl, hfn, hname, hbody, hcall⟩ := hf
  have hE : Ext T w0 w0 := Ext.refl _ _
  have hlen : xs.length = n := (hx w0 hE).len
  have hmax : n ≤ 9223372036854775807 := (hx w0 hE).max
  have hsome : 0 < n → A.isSome = true := (hx w0 hE).is
  refine calls [4] Tryz.func35 rfl rfl rfl rfl ?_
  refine c_seq ?_
  refine c_ops ?_
  refine l_val rfl rfl rfl (r_assign rfl) ?_
  refine l_nil ?_
  refine c_seq ?_
  refine c_seq ?_
  refine c_ops ?_
  refine l_val rfl rfl rfl (r_move rfl) ?_
  refine l_val rfl rfl rfl (r_len rfl Tryz.underlying25 rfl) ?_
  refine l_val rfl rfl rfl (r_move rfl) ?_
  refine l_nil ?_
  refine c_block ?_
  refine c_loop [4, 5, 8, 9, 10, 11, 12, 13, 14, 15, 16, 17, 18] (fun m e w => ∃ k s, k ≤ n ∧ m = n - k ∧ e 8 = .int .i64 (k : Nat) ∧ findS p 0 s0 xs = findS p k s (xs.drop k) ∧ St s w ∧ Ext T w0 w) n ?_ ?_
  · exact ⟨0, s0, Nat.zero_le _, rfl, rfl, rfl, hs, hE⟩
  intro m e w hI
  obtain ⟨k, s, hk, hm, h8, hfind, hs, hE⟩ := hI
  refine c_know h8 ?_
  refine c_seq ?_
  refine c_ops ?_
  refine l_val rfl rfl rfl (r_lss rfl rfl rfl) ?_
  refine l_nil ?_
  refine c_seq ?_
  refine c_cond rfl (fun hb => ?_) (fun hb => ?_)
  · replace hb := of_decide_eq_true hb
    have hkn : k < n := by omega
    obtain ⟨x, hxk⟩ : ∃ x, xs[k]? = some x := ⟨xs[k]'(by omega), List.getElem?_eq_getElem (by omega)⟩
    obtain ⟨cs1, hcl, hR, hcell⟩ := (hx w hE).at_ k x hxk
    have hcell' : ∀ j v, cs1[j]? = some v → w.cell? (((adr A).add ((k : Int).toNat * 3)).add j) = some v := fun j v hj => by rw [adr_add, Int.toNat_natCast]; exact hcell j v hj
    have hstep := findS_step p s xs k x hxk
    refine c_skip ?_
    refine c_seq ?_
    refine c_block ?_
    refine c_seq ?_
 
    refine c_ops ?_
    refine l_val rfl rfl rfl (r_move rfl) ?_
    refine l_val rfl rfl rfl (r_assign rfl) ?_
    refine l_nil ?_
    refine c_seq ?_
 
    refine c_ops ?_
    refine l_val rfl rfl rfl (r_move rfl) ?_
    refine l_val rfl rfl rfl (r_move rfl) ?_
    refine l_val rfl rfl rfl (r_move rfl) ?_
    refine l_val rfl rfl rfl (r_indexAddr_sl rfl Tryz.underlying25 Tryz.sizeOf43 rfl hsome rfl (Int.natCast_nonneg _) (by omega)) ?_
    refine l_val rfl rfl rfl (r_load_agg (vs := cs1) rfl Tryz.isAgg43 (by rw [hcl]; exact Tryz.sizeOf43) rfl hcell') ?_
    refine l_by rfl rfl rfl (r_call rfl rfl hfn hname hbody) (hcall s x (.agg cs1.toArray) w hs ⟨cs1, hcl, hR, rfl⟩) ?_
    rintro _ w ⟨rfl, hX, hs⟩
    replace hE := hE.trans hX
    refine ⟨_, rfl, ?_⟩
    refine l_nil ?_
    refine c_cond rfl (fun hb => ?_) (fun hb => ?_)
    · refine c_seq ?_
   
      refine c_ops ?_
      refine l_val rfl rfl rfl (r_move rfl) ?_
      refine l_val rfl rfl rfl (r_assign rfl) ?_
      refine l_nil ?_
      refine c_ret ?_
      exact ⟨by rw [hfind, hstep, hb]; rfl, hE, by rw [hfind, hstep, hb]; exact hs⟩
    · have hfind' : findS p 0 s0 xs = findS p (k + 1) (p s x).2 (xs.drop (k + 1)) := by rw [hfind, hstep, hb]; rfl
      refine c_skip ?_
   
      refine c_ops ?_
      refine l_val rfl rfl rfl (r_add rfl rfl rfl) ?_
      refine l_val rfl rfl rfl (r_move rfl) ?_
      refine l_nil ?_
      refine ⟨by repeat (first | exact Agree.over _ _ _ | (refine Agree.puto ?_ _ _ rfl) | (refine Agree.put ?_ _ _ rfl) | (refine Agree.sub ?_ rfl)), ?_⟩
      exact ⟨n - (k + 1), by omega, k + 1, (p s x).2, by omega, rfl, by show Value.int .i64 (IntKind.i64.wrap ((k : Int) + 1)) = _; rw [wrap_succ hkn hmax], hfind', hs, hE⟩
  · replace hb := of_decide_eq_false hb
    have hkn : n ≤ k := by omega
    refine c_exit ?_
    refine c_seq ?_
 
    refine c_ops ?_
    refine l_val rfl rfl rfl (r_assign rfl) ?_
    refine l_nil ?_
    refine c_ret ?_
    exact ⟨by rw [hfind, findS_end p s xs k (by omega)]; rfl, hE, by rw [hfind, findS_end p s xs k (by omega)]; exact hs⟩
theorem ContainsFunc_fact {σ α : Type} (St : σ → World → Prop) (T : Nat → Prop) (R : World → α → List Value → Prop) (p : σ → α → Bool × σ) (w0 : World) (A : Option Addr) (n c : Nat) (xs : List α) (fv : Value) (s0 : σ)
    (hx : ∀ W, Ext T w0 W → Sl W 3 R A n c xs) (hf : Tests Tryz.prog St T (DN R 3) p fv) (hs : St s0 w0) :
    Calls Tryz.prog 59 [.slice A n c, fv].toArray w0 fun en w' => en = .returned (.bool (findS p 0 s0 xs).1.isSome) ∧ Ext T w0 w' ∧ St (findS p 0 s0 xs).2 w' := by
  refine calls [4] Tryz.func59 rfl rfl rfl rfl ?_
  refine c_seq ?_
  refine c_ops ?_
  refine l_val rfl rfl rfl (r_assign rfl) ?_
  refine l_nil ?_
  refine c_seq ?_
  refine c_ops ?_
  refine l_val rfl rfl rfl (r_move rfl) ?_
  refine l_val rfl rfl rfl (r_move rfl) ?_
  refine l_by rfl rfl rfl (r_call rfl rfl Tryz.func35 rfl rfl) (IndexFunc_fact St T R p w0 A n c xs fv s0 hx hf hs) ?_
  rintro _ w ⟨rfl, hX, hs⟩
  refine ⟨_, rfl, ?_⟩
  refine l_val rfl rfl rfl (r_geq rfl rfl rfl) ?_
  refine l_val rfl rfl rfl (r_assign rfl) ?_
  refine l_nil ?_
  refine c_ret ?_
  exact ⟨congrArg (fun b => Ending.returned (.bool b)) (idxV_ge _), hX, hs⟩
theorem IndexFunc_fn {σ α : Type} (St : σ → World → Prop) (T : Nat → Prop) (R : World → α → List Value → Prop) (p : σ → α → Bool × σ) (w0 : World) (A : Option Addr) (n c : Nat) (xs : List α) (fv : Value) (s0 : σ)
    (hx : ∀ W, Ext T w0 W → Sl W 1 R A n c xs) (hf : Tests Tryz.prog St T (D1 R) p fv) (hs : St s0 w0) :
    Calls Tryz.prog 121 [.slice A n c, fv].toArray w0 fun en w' => en = .returned (.int .i64 (idxV (findS p 0 s0 xs).1)) ∧ Ext T w0 w' ∧ St (findS p 0 s0 xs).2 w' := by
  obtain ⟨g, fs, cs, fn, cd, rfl, hfn, hname, hbody, hcall⟩ := hf
  have hE : Ext T w0 w0 := Ext.refl _ _
  have hlen : xs.length = n := (hx w0 hE).len
  have hmax : n ≤ 9223372036854775807 := (hx w0 hE).max
  have hsome : 0 < n → A.isSome = true := (hx w0 hE).is
  refine calls [4] Tryz.func121 rfl rfl rfl rfl ?_
  refine c_seq ?_
  refine c_ops ?_
  refine l_val rfl rfl rfl (r_assign rfl) ?_
  refine l_nil ?_
  refine c_seq ?_
  refine c_seq ?_
  refine c_ops ?_
  refine l_val rfl rfl rfl (r_move rfl) ?_
  refine l_val rfl rfl rfl (r_len rfl Tryz.underlying132 rfl) ?_
  refine l_val rfl rfl rfl (r_move rfl) ?_
  refine l_nil ?_
  refine c_block ?_
  refine c_loop [4, 5, 8, 9, 10, 11, 12, 13, 14, 15, 16, 17, 18] (fun m e w => ∃ k s, k ≤ n ∧ m = n - k ∧ e 8 = .int .i64 (k : Nat) ∧ findS p 0 s0 xs = findS p k s (xs.drop k) ∧ St s w ∧ Ext T w0 w) n ?_ ?_
  · exact ⟨0, s0, Nat.zero_le _, rfl, rfl, rfl, hs, hE⟩
  intro m e w hI
  obtain ⟨k, s, hk, hm, h8, hfind, hs, hE⟩ := hI
  refine c_know h8 ?_
  refine c_seq ?_
  refine c_ops ?_
  refine l_val rfl rfl rfl (r_lss rfl rfl rfl) ?_
  refine l_nil ?_
  refine c_seq ?_
  refine c_cond rfl (fun hb => ?_) (fun hb => ?_)
  · replace hb := of_decide_eq_true hb
    have hkn : k < n := by omega
    obtain ⟨x, hxk⟩ : ∃ x, xs[k]? = some x := ⟨xs[k]'(by omega), List.getElem?_eq_getElem (by omega)⟩
    obtain ⟨cs1, hcl, hR, hcell⟩ := (hx w hE).at_ k x hxk
    obtain ⟨v1, rfl⟩ : ∃ v1, cs1 = [v1] := List.length_eq_one_iff.1 hcl
    have hcell' : w.cell? ((adr A).add ((k : Int).toNat * 1)) = some v1 := by rw [Int.toNat_natCast]; exact hcell 0 v1 rfl
    have hstep := findS_step p s xs k x hxk
    refine c_skip ?_
    refine c_seq ?_
    refine c_block ?_
    refine c_seq ?_
 
    refine c_ops ?_
    refine l_val rfl rfl rfl (r_move rfl) ?_
    refine l_val rfl rfl rfl (r_assign rfl) ?_
    refine l_nil ?_
    refine c_seq ?_
 
    refine c_ops ?_
    refine l_val rfl rfl rfl (r_move rfl) ?_
    refine l_val rfl rfl rfl (r_move rfl) ?_
    refine l_val rfl rfl rfl (r_move rfl) ?_
    refine l_val rfl rfl rfl (r_indexAddr_sl rfl Tryz.underlying132 Tryz.sizeOf127 rfl hsome rfl (Int.natCast_nonneg _) (by omega)) ?_
    refine l_val rfl rfl rfl (r_load rfl Tryz.isAgg127 rfl hcell') ?_
    refine l_by rfl rfl rfl (r_call rfl rfl hfn hname hbody) (hcall s x v1 w hs hR) ?_
    rintro _ w ⟨rfl, hX, hs⟩
    replace hE := hE.trans hX
    refine ⟨_, rfl, ?_⟩
    refine l_nil ?_
    refine c_cond rfl (fun hb => ?_) (fun hb => ?_)
    · refine c_seq ?_
   
      refine c_ops ?_
      refine l_val rfl rfl rfl (r_move rfl) ?_
      refine l_val rfl rfl rfl (r_assign rfl) ?_
      refine l_nil ?_
      refine c_ret ?_
      exact ⟨by rw [hfind, hstep, hb]; rfl, hE, by rw [hfind, hstep, hb]; exact hs⟩
    · have hfind' : findS p 0 s0 xs = findS p (k + 1) (p s x).2 (xs.drop (k + 1)) := by rw [hfind, hstep, hb]; rfl
      refine c_skip ?_
   
      refine c_ops ?_
      refine l_val rfl rfl rfl (r_add rfl rfl rfl) ?_
      refine l_val rfl rfl rfl (r_move rfl) ?_
      refine l_nil ?_
      refine ⟨by repeat (first | exact Agree.over _ _ _ | (refine Agree.puto ?_ _ _ rfl) | (refine Agree.put ?_ _ _ rfl) | (refine Agree.sub ?_ rfl)), ?_⟩
      exact ⟨n - (k + 1), by omega, k + 1, (p s x).2, by omega, rfl, by show Value.int .i64 (IntKind.i64.wrap ((k : Int) + 1)) = _; rw [wrap_succ hkn hmax], hfind', hs, hE⟩
  · replace hb := of_decide_eq_false hb
    have hkn : n ≤ k := by omega
    refine c_exit ?_
    refine c_seq ?_
 
    refine c_ops ?_
    refine l_val rfl rfl rfl (r_assign rfl) ?_
    refine l_nil ?_
    refine c_ret ?_
    exact ⟨by rw [hfind, findS_end p s xs k (by omega)]; rfl, hE, by rw [hfind, findS_end p s xs k (by omega)]; exact hs⟩
theorem ContainsFunc_fn {σ α : Type} (St : σ → World → Prop) (T : Nat → Prop) (R : World → α → List Value → Prop) (p : σ → α → Bool × σ) (w0 : World) (A : Option Addr) (n c : Nat) (xs : List α) (fv : Value) (s0 : σ)
    (hx : ∀ W, Ext T w0 W → Sl W 1 R A n c xs) (hf : Tests Tryz.prog St T (D1 R) p fv) (hs : St s0 w0) :
    Calls Tryz.prog 115 [.slice A n c, fv].toArray w0 fun en w' => en = .returned (.bool (findS p 0 s0 xs).1.isSome) ∧ Ext T w0 w' ∧ St (findS p 0 s0 xs).2 w' := by
  refine calls [4] Tryz.func115 rfl rfl rfl rfl ?_
  refine c_seq ?_
  refine c_ops ?_
  refine l_val rfl rfl rfl (r_assign rfl) ?_
  refine l_nil ?_
  refine c_seq ?_
  refine c_ops ?_
  refine l_val rfl rfl rfl (r_move rfl) ?_
  refine l_val rfl rfl rfl (r_move rfl) ?_
  refine l_by rfl rfl rfl (r_call rfl rfl Tryz.func121 rfl rfl) (IndexFunc_fn St T R p w0 A n c xs fv s0 hx hf hs) ?_
  rintro _ w ⟨rfl, hX, hs⟩
  refine ⟨_, rfl, ?_⟩
  refine l_val rfl rfl rfl (r_geq rfl rfl rfl) ?_
  refine l_val rfl rfl rfl (r_assign rfl) ?_
  refine l_nil ?_
  refine c_ret ?_
  exact ⟨congrArg (fun b => Ending.returned (.bool b)) (idxV_ge _), hX, hs⟩
end Go.Proofs.YtndophlnapjkhaaGreatDoor.Vc
namespace Go.Proofs.YtndophlnapjkhaaGreatDoor.Vc
open Go Go.RowKit
set_option linter.unusedVariables false
set_option linter.unusedSimpArgs false
def bytesL (s : ByteArray) : List Int := s.data.toList.map fun c => (c.toNat : Int)
def smallB (c : Int) : Bool := decide (97 ≤ c) && decide (c ≤ 122)
def digitB (c : Int) : Bool := decide (48 ≤ c) && decide (c ≤ 57)
def scoreB (c : Int) : Bool := decide (c = 95)
def str (l : List UInt8) : ByteArray := ⟨l.toArray⟩
def keysL : List ByteArray := [str [109, 111, 100, 117, 108, 101], str [105, 109, 112, 111, 114, 116], str [116, 121, 112, 101], str [102, 110], str [108, 101, 116], str [105, 110], str [105, 102], str [116, 104, 101, 110], str [101, 108, 115, 101], str [105, 115], str [97, 115], str [116, 114, 117, 101], str [102, 97, 108, 115, 101], str [110, 117, 108, 108], str [100, 121, 110], str [98, 111, 111, 108], str [105, 110, 116], str [114, 101, 99]]
def isKeyB (s : ByteArray) : Bool := keysL.any (· = s)
def formedB (s : ByteArray) (first : Int → Bool) (others : List (Int → Bool)) : Bool := decide (s.size ≠ 0) && decide (s.size ≤ 16) && first ((bytesL s).getD 0 0) && (bytesL s).all fun c => others.any (· c)
def taggedB (s : ByteArray) : Bool := formedB s smallB [smallB, digitB, scoreB]
def isNameB (s : ByteArray) : Bool := taggedB s && !isKeyB s
def KeysLaid (w : World) : Prop := ∀ (i : Nat) s, keysL[i]? = some s → w.cell? ⟨0, i, none⟩ = some (.string s)
theorem KeysLaid.keep {w W : World} (h : KeysLaid w) (hc : Cells w W) : KeysLaid W := fun i s hs => hc _ _ (h i s hs)
theorem byte_at (s : ByteArray) (i : Nat) (h : i < s.size) : ∃ c, s[i]? = some c ∧ (c.toNat : Int) = (bytesL s).getD i 0 ∧ (bytesL s)[i]? = some (c.toNat : Int) := by
  have h1 : s[i]? = some (s[i]'h) := by simp [h]
  have hl : i < s.data.toList.length := by rw [Array.length_toList]; exact h
  have h2 : s.data.toList[i]? = some (s[i]'h) := by
    rw [List.getElem?_eq_getElem hl, Array.getElem_toList]
    rfl
  have h3 : (bytesL s)[i]? = some ((s[i]'h).toNat : Int) := by unfold bytesL; rw [List.getElem?_map, h2]; rfl
  exact ⟨_, h1, by rw [List.getD_eq_getElem?_getD, h3]; rfl, h3⟩
theorem bytesL_length (s : ByteArray) : (bytesL s).length = s.size := by
  unfold bytesL
  rw [List.length_map, Array.length_toList]
  rfl
theorem small_calls (w0 : World) (c : Int) : Calls Tryz.prog 103 [.int .u8 c].toArray w0 fun en w' => en = .returned (.bool (smallB c)) ∧ Ext0 w0 w' := by
  have hE : Ext0 w0 w0 := Ext.refl _ _
  refine calls [2] Tryz.func103 rfl rfl rfl rfl ?_
  refine c_seq ?_
  refine c_ops ?_
  refine l_val rfl rfl rfl (r_assign rfl) ?_
  refine l_nil ?_
  refine c_seq ?_
  refine c_ops ?_
  refine l_val rfl rfl rfl (r_move rfl) ?_
  refine l_val rfl rfl rfl (r_geq rfl rfl rfl) ?_
  refine l_val rfl rfl rfl (r_move rfl) ?_
  refine l_case 5 rfl (fun hb => ?_) (fun hb => ?_)
  · replace hb := of_decide_eq_true hb
    refine l_val rfl rfl rfl (r_move rfl) ?_
    refine l_val rfl rfl rfl (r_leq rfl rfl rfl) ?_
    refine l_val rfl rfl rfl (r_pick rfl rfl) ?_
    refine l_val rfl rfl rfl (r_assign rfl) ?_
    refine l_nil ?_
    refine c_ret ?_
    exact ⟨ret_bool rfl (by simp [smallB, hb]), hE⟩
  · replace hb := of_decide_eq_false hb
    refine l_not rfl rfl rfl ?_
    refine l_not rfl rfl rfl ?_
    refine l_val rfl rfl rfl (r_pick rfl rfl) ?_
    refine l_val rfl rfl rfl (r_assign rfl) ?_
    refine l_nil ?_
    refine c_ret ?_
    exact ⟨ret_bool rfl (by simp [smallB, hb]), hE⟩
theorem digit_calls (w0 : World) (c : Int) : Calls Tryz.prog 104 [.int .u8 c].toArray w0 fun en w' => en = .returned (.bool (digitB c)) ∧ Ext0 w0 w' := by
  have hE : Ext0 w0 w0 := Ext.refl _ _
  refine calls [2] Tryz.func104 rfl rfl rfl rfl ?_
  refine c_seq ?_
  refine c_ops ?_
  refine l_val rfl rfl rfl (r_assign rfl) ?_
  refine l_nil ?_
  refine c_seq ?_
  refine c_ops ?_
  refine l_val rfl rfl rfl (r_move rfl) ?_
  refine l_val rfl rfl rfl (r_geq rfl rfl rfl) ?_
  refine l_val rfl rfl rfl (r_move rfl) ?_
  refine l_case 5 rfl (fun hb => ?_) (fun hb => ?_)
  · replace hb := of_decide_eq_true hb
    refine l_val rfl rfl rfl (r_move rfl) ?_
    refine l_val rfl rfl rfl (r_leq rfl rfl rfl) ?_
    refine l_val rfl rfl rfl (r_pick rfl rfl) ?_
    refine l_val rfl rfl rfl (r_assign rfl) ?_
    refine l_nil ?_
    refine c_ret ?_
    exact ⟨ret_bool rfl (by simp [digitB, hb]), hE⟩
  · replace hb := of_decide_eq_false hb
    refine l_not rfl rfl rfl ?_
    refine l_not rfl rfl rfl ?_
    refine l_val rfl rfl rfl (r_pick rfl rfl) ?_
    refine l_val rfl rfl rfl (r_assign rfl) ?_
    refine l_nil ?_
    refine c_ret ?_
    exact ⟨ret_bool rfl (by simp [digitB, hb]), hE⟩
theorem score_calls (w0 : World) (c : Int) : Calls Tryz.prog 105 [.int .u8 c].toArray w0 fun en w' => en = .returned (.bool (scoreB c)) ∧ Ext0 w0 w' := by
  have hE : Ext0 w0 w0 := Ext.refl _ _
  refine calls [2] Tryz.func105 rfl rfl rfl rfl ?_
  refine c_seq ?_
  refine c_ops ?_
  refine l_val rfl rfl rfl (r_assign rfl) ?_
  refine l_nil ?_
  refine c_seq ?_
  refine c_ops ?_
  refine l_val rfl rfl rfl (r_move rfl) ?_
  refine l_val rfl rfl rfl (r_eql rfl rfl rfl) ?_
  refine l_val rfl rfl rfl (r_assign rfl) ?_
  refine l_nil ?_
  refine c_ret ?_
  exact ⟨rfl, hE⟩
def ByteTest (v : Value) (q : Int → Bool) : Prop :=
  ∃ g fs cs fn c, v = .func (.func g) fs cs ∧ Tryz.prog.funcs[g]? = some fn ∧ (fn.name == "runtime.NumGoroutine") = false ∧ fn.body = some c ∧
    ∀ b W, Calls Tryz.prog g (fs.toList ++ ([Value.int .u8 b] ++ cs.toList)).toArray W fun en w' => en = .returned (.bool (q b)) ∧ Ext0 W w'
def RTest (_ : World) (q : Int → Bool) (cs : List Value) : Prop := ∃ v, cs = [v] ∧ ByteTest v q
theorem RTest.kept : Kept RTest := fun _ _ _ _ _ h => h
theorem small_test : ByteTest (.func (.func 103) #[] #[]) smallB := ⟨_, _, _, _, _, rfl, Tryz.func103, rfl, rfl, fun b W => small_calls W b⟩
theorem digit_test : ByteTest (.func (.func 104) #[] #[]) digitB := ⟨_, _, _, _, _, rfl, Tryz.func104, rfl, rfl, fun b W => digit_calls W b⟩
theorem score_test : ByteTest (.func (.func 105) #[] #[]) scoreB := ⟨_, _, _, _, _, rfl, Tryz.func105, rfl, rfl, fun b W => score_calls W b⟩
theorem formed1_calls (w0 : World) (v : Value) (q : Int → Bool) (hq : ByteTest v q) (sb ib : Nat) (s : ByteArray) (i : Nat) (ts ti : TypeId) (hi : i < s.size) (hL : Has w0 [.blk ib (.cells #[.int .i64 i] ti (0, 0)), .blk sb (.cells #[.string s] ts (0, 0))]) :
    Calls Tryz.prog 116 [v, .pointer (some ⟨sb, 0, none⟩), .pointer (some ⟨ib, 0, none⟩)].toArray w0 fun en w' => en = .returned (.bool (q ((bytesL s).getD i 0))) ∧ Ext0 w0 w' := by
  have hE : Ext0 w0 w0 := Ext.refl _ _
  obtain ⟨g, fs, cs, fn, cd, rfl, hfn, hname, hbody, hcall⟩ := hq
  obtain ⟨c, hc, hci, _⟩ := byte_at s i hi
  refine calls [4] Tryz.func116 rfl rfl rfl rfl ?_
  refine c_seq ?_
  refine c_ops ?_
  refine l_val rfl rfl rfl (r_assign rfl) ?_
  refine l_nil ?_
  refine c_seq ?_
  refine c_ops ?_
  refine l_val rfl rfl rfl (r_move rfl) ?_
  refine l_val rfl rfl rfl (r_load_blk rfl Tryz.isAgg9 rfl (hL.get 1 rfl) rfl) ?_
  refine l_val rfl rfl rfl (r_load_blk rfl Tryz.isAgg3 rfl (hL.get 0 rfl) rfl) ?_
  refine l_val rfl rfl rfl (r_index_str rfl Tryz.underlying9 rfl rfl (Int.natCast_nonneg _) hc) ?_
  refine l_by rfl rfl rfl (r_call rfl rfl hfn hname hbody) (hcall _ w0) ?_
  rintro _ w ⟨rfl, hX⟩
  replace hE := hE.step0 hX
  refine ⟨_, rfl, ?_⟩
  refine l_val rfl rfl rfl (r_assign rfl) ?_
  refine l_nil ?_
  refine c_ret ?_
  exact ⟨ret_bool rfl (by rw [hci]), hE⟩
theorem formedB_no {s : ByteArray} {q : Int → Bool} {qs : List (Int → Bool)} (j : Nat) (hj : j < s.size) (h : qs.any (· ((bytesL s).getD j 0)) = false) : formedB s q qs = false := by
  have hl := bytesL_length s
  have : (bytesL s).all (fun c => qs.any (· c)) = false := by
    rw [List.all_eq_false]
    refine ⟨(bytesL s).getD j 0, ?_, by rw [h]; simp⟩
    rw [List.getD_eq_getElem?_getD, List.getElem?_eq_getElem (by omega)]
    exact List.getElem_mem _
  simp [formedB, this]
theorem formedB_yes {s : ByteArray} {q : Int → Bool} {qs : List (Int → Bool)} (h0 : 0 < s.size) (h1 : s.size ≤ 16) (h2 : q ((bytesL s).getD 0 0) = true) (h : ∀ j, j < s.size → qs.any (· ((bytesL s).getD j 0)) = true) : formedB s q qs = true := by
  have hl := bytesL_length s
  have : (bytesL s).all (fun c => qs.any (· c)) = true := by
    rw [List.all_eq_true]
    intro c hc
    obtain ⟨j, hj⟩ := List.mem_iff_getElem?.1 hc
    have hjl := (List.getElem?_eq_some_iff.1 hj).1
    have := h j (by omega)
    rw [List.getD_eq_getElem?_getD, hj] at this
    exact this
  have h3 : s.size ≠ 0 := by omega
  unfold formedB
  rw [this, h2]
  simp [h1, h3]
theorem formed_calls (w0 : World) (s : ByteArray) (v : Value) (q : Int → Bool) (hq : ByteTest v q) (A : Option Addr) (n c : Nat) (qs : List (Int → Bool)) (hqs : Sl w0 1 RTest A n c qs) (hmax : s.size ≤ 9223372036854775807) :
    Calls Tryz.prog 102 [.string s, v, .slice A n c].toArray w0 fun en w' => en = .returned (.bool (formedB s q qs)) ∧ Ext0 w0 w' := by
  have hE : Ext0 w0 w0 := Ext.refl _ _
  have hL : Has w0 [] := trivial
  obtain ⟨g, fs, cs, fn, cd, rfl, hfn, hname, hbody, hcall⟩ := hq
  refine calls [6] Tryz.func102 rfl rfl rfl rfl ?_
  refine c_seq ?_
  refine c_ops ?_
  refine l_new rfl rfl rfl (n_box rfl hL hE) ?_
  rintro _ w ⟨b3, rfl, hb3, hL, hE, hX⟩
  refine l_val rfl rfl rfl (r_assign rfl) ?_
  refine l_nil ?_
  refine c_seq ?_
  refine c_seq ?_
  refine c_ops ?_
  refine l_val rfl rfl rfl (r_load_blk rfl Tryz.isAgg9 rfl (hL.get 0 rfl) rfl) ?_
  refine l_val rfl rfl rfl (r_seql rfl rfl rfl) ?_
  refine l_val rfl rfl rfl (r_move rfl) ?_
  refine l_case 10 rfl (fun hb => ?_) (fun hb => ?_)
  · replace hb := of_decide_eq_true hb
    refine l_not rfl rfl rfl ?_
    refine l_not rfl rfl rfl ?_
    refine l_not rfl rfl rfl ?_
    refine l_val rfl rfl rfl (r_pick rfl rfl) ?_
    refine l_val rfl rfl rfl (r_move rfl) ?_
    refine l_not rfl rfl rfl ?_
    refine l_not rfl rfl rfl ?_
    refine l_not rfl rfl rfl ?_
    refine l_not rfl rfl rfl ?_
    refine l_not rfl rfl rfl ?_
    refine l_val rfl rfl rfl (r_pick rfl rfl) ?_
    refine l_nil ?_
    refine c_yes rfl ?_
    refine c_seq ?_
 
    refine c_ops ?_
    refine l_val rfl rfl rfl (r_assign rfl) ?_
    refine l_nil ?_
    refine c_ret ?_
    exact ⟨ret_bool rfl (by rw [hb]; rfl), hE⟩
  · replace hb := of_decide_eq_false hb
    have hsz : 0 < s.size := by
      rcases Nat.eq_zero_or_pos s.size with h | h
      · exact absurd (ByteArray.ext (Array.eq_empty_of_size_eq_zero h)) hb
      · exact h
    refine l_val rfl rfl rfl (r_load_blk rfl Tryz.isAgg9 rfl (hL.get 0 rfl) rfl) ?_
    refine l_val rfl rfl rfl (r_len_str rfl Tryz.underlying9 rfl) ?_
    refine l_val rfl rfl rfl (r_gtr rfl rfl rfl) ?_
    refine l_val rfl rfl rfl (r_pick rfl rfl) ?_
    refine l_val rfl rfl rfl (r_move rfl) ?_
    refine l_case 15 rfl (fun hb => ?_) (fun hb => ?_)
    · replace hb := of_decide_eq_true hb
      refine l_not rfl rfl rfl ?_
      refine l_not rfl rfl rfl ?_
      refine l_not rfl rfl rfl ?_
      refine l_not rfl rfl rfl ?_
      refine l_not rfl rfl rfl ?_
      refine l_val rfl rfl rfl (r_pick rfl rfl) ?_
      refine l_nil ?_
      refine c_yes rfl ?_
      refine c_seq ?_
   
      refine c_ops ?_
      refine l_val rfl rfl rfl (r_assign rfl) ?_
      refine l_nil ?_
      refine c_ret ?_
      exact ⟨ret_bool rfl (by have : ¬ s.size ≤ 16 := by omega
                              simp [formedB, this]), hE⟩
    · replace hb := of_decide_eq_false hb
      have h16 : s.size ≤ 16 := by omega
      obtain ⟨c0, hc0, hci0, _⟩ := byte_at s 0 hsz
      refine l_val rfl rfl rfl (r_move rfl) ?_
      refine l_val rfl rfl rfl (r_load_blk rfl Tryz.isAgg9 rfl (hL.get 0 rfl) rfl) ?_
      refine l_val rfl rfl rfl (r_index_str rfl Tryz.underlying9 rfl rfl (Int.le_refl _) hc0) ?_
      refine l_by rfl rfl rfl (r_call rfl rfl hfn hname hbody) (hcall _ _) ?_
      rintro _ w ⟨rfl, hX⟩
      replace hL := hL.ext0 hX
      replace hE := hE.step0 hX
      refine ⟨_, rfl, ?_⟩
      refine l_val rfl rfl rfl (r_not rfl rfl) ?_
      refine l_val rfl rfl rfl (r_pick rfl rfl) ?_
      refine l_nil ?_
      refine c_cond rfl (fun hb => ?_) (fun hb => ?_)
      · refine c_seq ?_
     
        refine c_ops ?_
        refine l_val rfl rfl rfl (r_assign rfl) ?_
        refine l_nil ?_
        refine c_ret ?_
        exact ⟨ret_bool rfl (by rw [hci0] at hb; simp only [Bool.not_eq_true'] at hb; unfold formedB; rw [hb]; simp), hE⟩
      · have hfirst : q ((bytesL s).getD 0 0) = true := by rw [← hci0]; simpa using hb
        refine c_skip ?_
        refine c_seq ?_
        refine c_seq ?_
     
        refine c_ops ?_
        refine l_val rfl rfl rfl (r_load_blk rfl Tryz.isAgg9 rfl (hL.get 0 rfl) rfl) ?_
        refine l_val rfl rfl rfl (r_len_str rfl Tryz.underlying9 rfl) ?_
        refine l_val rfl rfl rfl (r_move rfl) ?_
        refine l_nil ?_
        refine c_block ?_
     
        refine c_loop [6, 7, 24, 25, 26, 27, 28, 29, 30, 31] (fun m e w => ∃ k, k ≤ s.size ∧ m = s.size - k ∧ e 24 = .int .i64 (k : Nat) ∧ (∀ j, j < k → qs.any (· ((bytesL s).getD j 0)) = true) ∧ Has w [.blk b3 (.cells #[.string s] 9 (0, 0))] ∧ Ext0 w0 w) s.size ?_ ?_
        · exact ⟨0, Nat.zero_le _, rfl, rfl, fun j hj => absurd hj (Nat.not_lt_zero _), hL, hE⟩
        intro m e w hI
        obtain ⟨k, hk, hm, h24, hall, hL, hE⟩ := hI
        refine c_know h24 ?_
        refine c_seq ?_
     
        refine c_ops ?_
        refine l_val rfl rfl rfl (r_lss rfl rfl rfl) ?_
        refine l_nil ?_
        refine c_seq ?_
        refine c_cond rfl (fun hb => ?_) (fun hb => ?_)
        · replace hb := of_decide_eq_true hb
          have hkn : k < s.size := by omega
          refine c_skip ?_
          refine c_seq ?_
          refine c_block ?_
          refine c_seq ?_
       
          refine c_ops ?_
          refine l_val rfl rfl rfl (r_move rfl) ?_
          refine l_new rfl rfl rfl (n_alloc rfl Tryz.zeroValue3 hL hE) ?_
          rintro _ w ⟨b7, rfl, hb7, hL, hE, hX⟩
          refine l_new_do rfl rfl (r_store 0 rfl Tryz.sizeOf3 rfl hL hE rfl rfl rfl rfl (fun h => absurd h (Nat.not_lt.2 hb7))) ?_
          rintro w ⟨hL, hE, hz, hk⟩
          refine l_nil ?_
          refine c_seq ?_
       
          refine c_ops ?_
          refine l_val rfl rfl rfl (r_move rfl) ?_
          refine l_val rfl rfl rfl (r_makeFunc rfl) ?_
          have hT : Tests Tryz.prog (fun (_ : Unit) W => Has W [.blk b7 (.cells #[.int .i64 (k : Nat)] 3 (0, 0)), .blk b3 (.cells #[.string s] 9 (0, 0))]) (fun _ => False) (D1 RTest) (fun _ q => (q ((bytesL s).getD k 0), ())) (.func (.func 116) #[] #[.pointer (some ⟨b3, 0, none⟩), .pointer (some ⟨b7, 0, none⟩)]) := ⟨_, _, _, _, _, rfl, Tryz.func116, rfl, rfl, fun _ x v W hs ⟨v', hv, hq⟩ => (formed1_calls W v x (by injection hv with hv _; rw [hv]; exact hq) b3 b7 s k _ _ hkn hs).mono (fun en w' ⟨h1, h2⟩ => ⟨h1, h2, hs.ext0 h2⟩)⟩
          refine l_by rfl rfl rfl (r_call rfl rfl Tryz.func115 rfl rfl) (ContainsFunc_fn (fun (_ : Unit) W => Has W [.blk b7 (.cells #[.int .i64 (k : Nat)] 3 (0, 0)), .blk b3 (.cells #[.string s] 9 (0, 0))]) (fun _ => False) RTest (fun _ q => (q ((bytesL s).getD k 0), ())) _ _ _ _ qs _ () (fun W hW => hqs.keep RTest.kept (Ext0.cells (hE.trans hW))) hT hL) ?_
          rintro _ w ⟨rfl, hX, hL⟩
          replace hE := hE.trans hX
          refine ⟨_, rfl, ?_⟩
          refine l_val rfl rfl rfl (r_not rfl rfl) ?_
          refine l_nil ?_
          refine c_cond rfl (fun hb => ?_) (fun hb => ?_)
          · have hno : qs.any (· ((bytesL s).getD k 0)) = false := by rw [← findS_pure (fun q => q ((bytesL s).getD k 0)) () 0 qs]; simpa using hb
            refine c_seq ?_
         
            refine c_ops ?_
            refine l_val rfl rfl rfl (r_assign rfl) ?_
            refine l_nil ?_
            refine c_ret ?_
            exact ⟨ret_bool rfl (formedB_no k hkn hno).symm, hE⟩
          · have hyes : qs.any (· ((bytesL s).getD k 0)) = true := by rw [← findS_pure (fun q => q ((bytesL s).getD k 0)) () 0 qs]; simpa using hb
            refine c_skip ?_
         
            refine c_ops ?_
            refine l_val rfl rfl rfl (r_add rfl rfl rfl) ?_
            refine l_val rfl rfl rfl (r_move rfl) ?_
            refine l_nil ?_
            refine ⟨by repeat (first | exact Agree.over _ _ _ | (refine Agree.puto ?_ _ _ rfl) | (refine Agree.put ?_ _ _ rfl) | (refine Agree.sub ?_ rfl)), ?_⟩
            exact ⟨s.size - (k + 1), by omega, k + 1, by omega, rfl, by show Value.int .i64 (IntKind.i64.wrap ((k : Int) + 1)) = _; rw [wrap_succ hkn hmax], fun j hj => by rcases Nat.lt_or_eq_of_le (Nat.le_of_lt_succ hj) with h | rfl <;> first | exact hall j h | exact hyes, hL.tail, hE⟩
        · replace hb := of_decide_eq_false hb
          have hkn : s.size ≤ k := by omega
          refine c_exit ?_
          refine c_seq ?_
       
          refine c_ops ?_
          refine l_val rfl rfl rfl (r_assign rfl) ?_
          refine l_nil ?_
          refine c_ret ?_
          exact ⟨ret_bool rfl (formedB_yes hsz h16 hfirst (fun j hj => hall j (by omega))).symm, hE⟩
theorem tagged_calls (w0 : World) (s : ByteArray) (hmax : s.size ≤ 9223372036854775807) :
    Calls Tryz.prog 87 [.string s].toArray w0 fun en w' => en = .returned (.bool (taggedB s)) ∧ Ext0 w0 w' := by
  have hE : Ext0 w0 w0 := Ext.refl _ _
  have hL : Has w0 [] := trivial
  refine calls [2] Tryz.func87 rfl rfl rfl rfl ?_
  refine c_seq ?_
  refine c_ops ?_
  refine l_val rfl rfl rfl (r_assign rfl) ?_
  refine l_nil ?_
  refine c_seq ?_
  refine c_ops ?_
  refine l_val rfl rfl rfl (r_move rfl) ?_
  refine l_new rfl rfl rfl (n_slice rfl Tryz.underlying132 Tryz.sizeOf127 Tryz.zeroValue127 rfl rfl rfl hL hE) ?_
  rintro _ w ⟨s4, rfl, hs4, hL, hE, hX⟩
  have hqs : Sl w 1 RTest (some ⟨s4, 0, none⟩) 3 3 [smallB, digitB, scoreB] := Sl.ofBlk1 (hL.get 0 rfl) rfl (Nat.le_refl _) (by omega) (fun i x hi => by
    match i, hi with
    | 0, hi => cases hi; exact ⟨_, rfl, _, rfl, small_test⟩
    | 1, hi => cases hi; exact ⟨_, rfl, _, rfl, digit_test⟩
    | 2, hi => cases hi; exact ⟨_, rfl, _, rfl, score_test⟩)
  refine l_by rfl rfl rfl (r_call rfl rfl Tryz.func102 rfl rfl) (formed_calls _ s _ smallB small_test _ _ _ _ hqs hmax) ?_
  rintro _ w ⟨rfl, hX⟩
  replace hE := hE.trans hX
  refine ⟨_, rfl, ?_⟩
  refine l_val rfl rfl rfl (r_assign rfl) ?_
  refine l_nil ?_
  refine c_ret ?_
  exact ⟨rfl, hE⟩
theorem isKeyB_no {s : ByteArray} (h : ∀ j, j < 18 → keysL.getD j ByteArray.empty ≠ s) : isKeyB s = false := by
  unfold isKeyB
  rw [List.any_eq_false]
  intro x hx
  obtain ⟨j, hj⟩ := List.mem_iff_getElem?.1 hx
  have hjl : j < 18 := (List.getElem?_eq_some_iff.1 hj).1
  have := h j hjl
  rw [List.getD_eq_getElem?_getD, hj] at this
  simpa using this
theorem isKeyB_yes {s : ByteArray} (j : Nat) (hj : j < 18) (h : keysL.getD j ByteArray.empty = s) : isKeyB s = true := by
  unfold isKeyB
  rw [List.any_eq_true]
  refine ⟨keysL.getD j ByteArray.empty, ?_, by simpa using h⟩
  rw [List.getD_eq_getElem?_getD, List.getElem?_eq_getElem (show j < keysL.length from hj)]
  exact List.getElem_mem _
theorem IsKey_calls (w0 : World) (s : ByteArray) (hk0 : KeysLaid w0) :
    Calls Tryz.prog 68 [.string s].toArray w0 fun en w' => en = .returned (.bool (isKeyB s)) ∧ Ext0 w0 w' := by
  have hE : Ext0 w0 w0 := Ext.refl _ _
  refine calls [2] Tryz.func68 rfl rfl rfl rfl ?_
  refine c_seq ?_
  refine c_ops ?_
  refine l_val rfl rfl rfl (r_assign rfl) ?_
  refine l_nil ?_
  refine c_seq ?_
  refine c_seq ?_
  refine c_ops ?_
  refine l_val rfl rfl rfl (r_move rfl) ?_
  refine l_nil ?_
  refine c_block ?_
  refine c_loop [2, 3, 4, 5, 6, 7, 8, 9, 10, 11, 12] (fun m e w => ∃ k : Nat, k ≤ 18 ∧ m = 18 - k ∧ e 4 = .int .i64 k ∧ (∀ j, j < k → keysL.getD j ByteArray.empty ≠ s) ∧ Ext0 w0 w) 18 ?_ ?_
  · exact ⟨0, Nat.zero_le _, rfl, rfl, fun j hj => absurd hj (Nat.not_lt_zero _), hE⟩
  intro m e w hI
  obtain ⟨k, hk, hm, h4, hall, hE⟩ := hI
  refine c_know h4 ?_
  refine c_seq ?_
  refine c_ops ?_
  refine l_val rfl rfl rfl (r_lss rfl rfl rfl) ?_
  refine l_nil ?_
  refine c_seq ?_
  refine c_cond rfl (fun hb => ?_) (fun hb => ?_)
  · replace hb := of_decide_eq_true hb
    have hkn : k < 18 := by omega
    have hck : w.cell? ((⟨0, 0, none⟩ : Addr).add ((k : Int).toNat * 1)) = some (.string (keysL.getD k ByteArray.empty)) := by
          rw [Int.toNat_natCast, blk_add]
          have := (hk0.keep (Ext0.cells hE)) k (keysL.getD k ByteArray.empty) (by rw [List.getD_eq_getElem?_getD, List.getElem?_eq_getElem (show k < keysL.length from hkn)]; rfl)
          simpa using this
    refine c_skip ?_
    refine c_seq ?_
    refine c_block ?_
    refine c_seq ?_
 
    refine c_ops ?_
    refine l_val rfl rfl rfl (r_move rfl) ?_
    refine l_val rfl rfl rfl (r_assign rfl) ?_
    refine l_nil ?_
    refine c_seq ?_
 
    refine c_ops ?_
    refine l_val rfl rfl rfl (r_move rfl) ?_
    refine l_val rfl rfl rfl (r_indexAddr_arr rfl Tryz.underlying120 Tryz.sizeOf9 rfl rfl (Int.natCast_nonneg _) (by omega)) ?_
    refine l_val rfl rfl rfl (r_load rfl Tryz.isAgg9 rfl hck) ?_
    refine l_val rfl rfl rfl (r_move rfl) ?_
    refine l_val rfl rfl rfl (r_seql rfl rfl rfl) ?_
    refine l_nil ?_
    refine c_cond rfl (fun hb => ?_) (fun hb => ?_)
    · replace hb := of_decide_eq_true hb
      refine c_seq ?_
   
      refine c_ops ?_
      refine l_val rfl rfl rfl (r_assign rfl) ?_
      refine l_nil ?_
      refine c_ret ?_
      exact ⟨ret_bool rfl (isKeyB_yes k hkn hb).symm, hE⟩
    · replace hb := of_decide_eq_false hb
      refine c_skip ?_
   
      refine c_ops ?_
      refine l_val rfl rfl rfl (r_add rfl rfl rfl) ?_
      refine l_val rfl rfl rfl (r_move rfl) ?_
      refine l_nil ?_
      refine ⟨by repeat (first | exact Agree.over _ _ _ | (refine Agree.puto ?_ _ _ rfl) | (refine Agree.put ?_ _ _ rfl) | (refine Agree.sub ?_ rfl)), ?_⟩
      exact ⟨18 - (k + 1), by omega, k + 1, by omega, rfl, by show Value.int .i64 (IntKind.i64.wrap ((k : Int) + 1)) = _; rw [wrap_succ hkn (by omega)], fun j hj => by rcases Nat.lt_or_eq_of_le (Nat.le_of_lt_succ hj) with h | rfl <;> first | exact hall j h | exact hb, hE⟩
  · replace hb := of_decide_eq_false hb
    have hkn : 18 ≤ k := by omega
    refine c_exit ?_
    refine c_seq ?_
 
    refine c_ops ?_
    refine l_val rfl rfl rfl (r_assign rfl) ?_
    refine l_nil ?_
    refine c_ret ?_
    exact ⟨ret_bool rfl (isKeyB_no (fun j hj => hall j (by omega))).symm, hE⟩
theorem IsName_calls (w0 : World) (s : ByteArray) (hk0 : KeysLaid w0) (hmax : s.size ≤ 9223372036854775807) :
    Calls Tryz.prog 67 [.string s].toArray w0 fun en w' => en = .returned (.bool (isNameB s)) ∧ Ext0 w0 w' := by
  have hE : Ext0 w0 w0 := Ext.refl _ _
  refine calls [2] Tryz.func67 rfl rfl rfl rfl ?_
  refine c_seq ?_
  refine c_ops ?_
  refine l_val rfl rfl rfl (r_assign rfl) ?_
  refine l_nil ?_
  refine c_seq ?_
  refine c_ops ?_
  refine l_val rfl rfl rfl (r_move rfl) ?_
  refine l_by rfl rfl rfl (r_call rfl rfl Tryz.func87 rfl rfl) (tagged_calls _ s hmax) ?_
  rintro _ w ⟨rfl, hX⟩
  replace hE := hE.trans hX
  refine ⟨_, rfl, ?_⟩
  refine l_val rfl rfl rfl (r_move rfl) ?_
  refine l_case 5 rfl (fun hb => ?_) (fun hb => ?_)
  · refine l_val rfl rfl rfl (r_move rfl) ?_
    refine l_by rfl rfl rfl (r_call rfl rfl Tryz.func68 rfl rfl) (IsKey_calls _ s (hk0.keep (Ext0.cells hE))) ?_
    rintro _ w ⟨rfl, hX⟩
    replace hE := hE.trans hX
    refine ⟨_, rfl, ?_⟩
    refine l_val rfl rfl rfl (r_not rfl rfl) ?_
    refine l_val rfl rfl rfl (r_pick rfl rfl) ?_
    refine l_val rfl rfl rfl (r_assign rfl) ?_
    refine l_nil ?_
    refine c_ret ?_
    exact ⟨ret_bool rfl (by unfold isNameB; rw [hb]; rfl), hE⟩
  · refine l_not rfl rfl rfl ?_
    refine l_not rfl rfl rfl ?_
    refine l_not rfl rfl rfl ?_
    refine l_val rfl rfl rfl (r_pick rfl rfl) ?_
    refine l_val rfl rfl rfl (r_assign rfl) ?_
    refine l_nil ?_
    refine c_ret ?_
    exact ⟨ret_bool rfl (by unfold isNameB; rw [hb]; rfl), hE⟩
end Go.Proofs.YtndophlnapjkhaaGreatDoor.Vc
namespace Go.Proofs.YtndophlnapjkhaaGreatDoor.Vc
open Go Go.RowKit
set_option linter.unusedVariables false
set_option linter.unusedSimpArgs false
theorem info_int : (Tryz.prog.info? 3).map (fun i => (i.zero, i.size, i.bytes)) = some (some (.int .i64 0), 1, 8) := by kernel_rfl
theorem isNaN_calls (w0 : World) (s : ByteArray) : Calls Tryz.prog 88 [.string s].toArray w0 fun en w' => en = .returned (.bool false) ∧ Ext0 w0 w' := by
  have hE : Ext0 w0 w0 := Ext.refl _ _
  refine calls [2] Tryz.func88 rfl rfl rfl rfl ?_
  refine c_seq ?_
  refine c_ops ?_
  refine l_val rfl rfl rfl (r_assign rfl) ?_
  refine l_nil ?_
  refine c_seq ?_
  refine c_ops ?_
  refine l_val rfl rfl rfl (r_move rfl) ?_
  refine l_val rfl rfl rfl (r_move rfl) ?_
  refine l_val rfl rfl rfl (r_sneq rfl rfl rfl) ?_
  refine l_val rfl rfl rfl (r_assign rfl) ?_
  refine l_nil ?_
  refine c_ret ?_
  exact ⟨ret_bool rfl (by simp), hE⟩
def ltB (a b : ByteArray) : Bool := Op.bytesLess a.toList b.toList
def cmpB (a b : ByteArray) : Int := if ltB a b then -1 else if a = b then 0 else 1
theorem Compare_calls (w0 : World) (a b : ByteArray) : Calls Tryz.prog 71 [.string a, .string b].toArray w0 fun en w' => en = .returned (.int .i64 (cmpB a b)) ∧ Ext0 w0 w' := by
  have hE : Ext0 w0 w0 := Ext.refl _ _
  refine calls [4] Tryz.func71 rfl rfl rfl rfl ?_
  refine c_seq ?_
  refine c_ops ?_
  refine l_val rfl rfl rfl (r_assign rfl) ?_
  refine l_nil ?_
  refine c_seq ?_
  refine c_ops ?_
  refine l_val rfl rfl rfl (r_move rfl) ?_
  refine l_by rfl rfl rfl (r_call rfl rfl Tryz.func88 rfl rfl) (isNaN_calls _ _) ?_
  rintro _ w ⟨rfl, hX⟩
  replace hE := hE.trans hX
  refine ⟨_, rfl, ?_⟩
  refine l_val rfl rfl rfl (r_assign rfl) ?_
  refine l_nil ?_
  refine c_seq ?_
  refine c_ops ?_
  refine l_val rfl rfl rfl (r_move rfl) ?_
  refine l_by rfl rfl rfl (r_call rfl rfl Tryz.func88 rfl rfl) (isNaN_calls _ _) ?_
  rintro _ w ⟨rfl, hX⟩
  replace hE := hE.trans hX
  refine ⟨_, rfl, ?_⟩
  refine l_val rfl rfl rfl (r_assign rfl) ?_
  refine l_nil ?_
  refine c_seq ?_
  refine c_seq ?_
  refine c_ops ?_
  refine l_val rfl rfl rfl (r_move rfl) ?_
  refine l_nil ?_
  refine c_no rfl ?_
  refine c_skip ?_
  refine c_seq ?_
  refine c_seq ?_
  refine c_ops ?_
  refine l_val rfl rfl rfl (r_move rfl) ?_
  refine l_nil ?_
  refine c_no rfl ?_
  refine c_skip ?_
  refine c_seq ?_
  refine c_seq ?_
  refine c_ops ?_
  refine l_val rfl rfl rfl (r_move rfl) ?_
  refine l_val rfl rfl rfl (r_move rfl) ?_
  refine l_val rfl rfl rfl (r_slss rfl rfl rfl) ?_
  refine l_nil ?_
  refine c_cond rfl (fun hb => ?_) (fun hb => ?_)
  · have hr16 := hb
    refine c_seq ?_
 
    refine c_ops ?_
    refine l_val rfl rfl rfl (r_assign rfl) ?_
    refine l_nil ?_
    refine c_ret ?_
    exact ⟨ret_int rfl (by unfold cmpB ltB; rw [hb]; rfl), hE⟩
  · have hr16 := hb
    refine c_skip ?_
    refine c_seq ?_
    refine c_seq ?_
 
    refine c_ops ?_
    refine l_val rfl rfl rfl (r_move rfl) ?_
    refine l_val rfl rfl rfl (r_move rfl) ?_
    refine l_val rfl rfl rfl (r_sgtr rfl rfl rfl) ?_
    refine l_nil ?_
    refine c_cond rfl (fun hb => ?_) (fun hb => ?_)
    · have hr19 := hb
      refine c_seq ?_
   
      refine c_ops ?_
      refine l_val rfl rfl rfl (r_assign rfl) ?_
      refine l_nil ?_
      refine c_ret ?_
      exact ⟨ret_int rfl (by unfold cmpB ltB; rename_i h1; rw [h1] at hb ⊢; simp at hb; rw [if_neg hb]; rfl), hE⟩
    · have hr19 := hb
      refine c_skip ?_
      refine c_seq ?_
   
      refine c_ops ?_
      refine l_val rfl rfl rfl (r_assign rfl) ?_
      refine l_nil ?_
      refine c_ret ?_
      exact ⟨ret_int rfl (by unfold cmpB ltB; rename_i h1; rw [h1] at hb ⊢; simp at hb; rw [if_pos hb]; rfl), hE⟩
def cmp2 (a b : ByteArray) : Int := if a = b then -1 else cmpB a b
def risesB (l : List ByteArray) : Bool := (List.range l.length).all fun i => decide (i = 0) || !decide (cmp2 (l.getD i ByteArray.empty) (l.getD (i - 1) ByteArray.empty) < 0)
theorem may2_calls (w0 : World) (a b : ByteArray) : Calls Tryz.prog 70 [.string a, .string b].toArray w0 fun en w' => en = .returned (.int .i64 (cmp2 a b)) ∧ Ext0 w0 w' := by
  have hE : Ext0 w0 w0 := Ext.refl _ _
  refine calls [4] Tryz.func70 rfl rfl rfl rfl ?_
  refine c_seq ?_
  refine c_ops ?_
  refine l_val rfl rfl rfl (r_assign rfl) ?_
  refine l_nil ?_
  refine c_seq ?_
  refine c_seq ?_
  refine c_ops ?_
  refine l_val rfl rfl rfl (r_move rfl) ?_
  refine l_val rfl rfl rfl (r_move rfl) ?_
  refine l_val rfl rfl rfl (r_seql rfl rfl rfl) ?_
  refine l_nil ?_
  refine c_cond rfl (fun hb => ?_) (fun hb => ?_)
  · have hr7 := hb
    replace hb := of_decide_eq_true hb
    refine c_seq ?_
 
    refine c_ops ?_
    refine l_val rfl rfl rfl (r_assign rfl) ?_
    refine l_nil ?_
    refine c_ret ?_
    exact ⟨ret_int rfl (by unfold cmp2; rw [if_pos hb]), hE⟩
  · have hr7 := hb
    replace hb := of_decide_eq_false hb
    refine c_skip ?_
    refine c_seq ?_
 
    refine c_ops ?_
    refine l_val rfl rfl rfl (r_move rfl) ?_
    refine l_val rfl rfl rfl (r_move rfl) ?_
    refine l_by rfl rfl rfl (r_call rfl rfl Tryz.func71 rfl rfl) (Compare_calls _ _ _) ?_
    rintro _ w ⟨rfl, hX⟩
    replace hE := hE.trans hX
    refine ⟨_, rfl, ?_⟩
    refine l_val rfl rfl rfl (r_assign rfl) ?_
    refine l_nil ?_
    refine c_ret ?_
    exact ⟨ret_int rfl (by unfold cmp2; rw [if_neg hb]), hE⟩
theorem risesB_no {l : List ByteArray} (i : Nat) (h0 : 0 < i) (hi : i < l.length) (h : cmp2 (l.getD i ByteArray.empty) (l.getD (i - 1) ByteArray.empty) < 0) : risesB l = false := by
  unfold risesB
  rw [List.all_eq_false]
  refine ⟨i, List.mem_range.2 hi, ?_⟩
  have : ¬ i = 0 := by omega
  simp only [h, this, decide_true, decide_false]
  decide
theorem risesB_yes {l : List ByteArray} (h : ∀ i, 0 < i → i < l.length → ¬ cmp2 (l.getD i ByteArray.empty) (l.getD (i - 1) ByteArray.empty) < 0) : risesB l = true := by
  unfold risesB
  rw [List.all_eq_true]
  intro i hi
  rcases Nat.eq_zero_or_pos i with h0 | h0
  · simp [h0]
  · have := h i h0 (List.mem_range.1 hi)
    simp only [this, decide_false]
    simp
theorem IsSorted_calls (w0 : World) (A : Option Addr) (n c : Nat) (xs : List ByteArray) (hx : Sl w0 1 RStr A n c xs) : Calls Tryz.prog 69 [.slice A n c, .func (.func 70) #[] #[]].toArray w0 fun en w' => en = .returned (.bool (risesB xs)) ∧ Ext0 w0 w' := by
  have hE : Ext0 w0 w0 := Ext.refl _ _
  have hL : Has w0 [] := trivial
  have hlen : xs.length = n := hx.len
  have hmax := hx.max
  have hsome := hx.is
  refine calls [4] Tryz.func69 rfl rfl rfl rfl ?_
  refine c_seq ?_
  refine c_ops ?_
  refine l_val rfl rfl rfl (r_assign rfl) ?_
  refine l_nil ?_
  refine c_seq ?_
  refine c_seq ?_
  refine c_ops ?_
  refine l_val rfl rfl rfl (r_move rfl) ?_
  refine l_val rfl rfl rfl (r_len rfl Tryz.underlying44 rfl) ?_
  refine l_val rfl rfl rfl (r_sub rfl rfl rfl) ?_
  refine l_val rfl rfl rfl (r_assign rfl) ?_
  refine l_nil ?_
  refine c_block ?_
  refine c_loop [4, 5, 9, 10, 11, 12, 13, 14, 15, 16, 17, 18, 19, 20, 21, 22, 23, 24] (fun m e w => ∃ i : Int, -1 ≤ i ∧ i < n ∧ m = (i + 1).toNat ∧ e 5 = .int .i64 i ∧ (∀ j : Nat, i < j → 0 < j → j < xs.length → ¬ cmp2 (xs.getD j ByteArray.empty) (xs.getD (j - 1) ByteArray.empty) < 0) ∧ Ext0 w0 w) n ?_ ?_
  · exact ⟨(n : Int) - 1, by omega, by omega, by omega, by show Value.int .i64 (IntKind.i64.wrap ((n : Int) - 1)) = _; rw [wrap_small (by omega) (by omega)], fun j h1 _ h2 => by omega, hE⟩
  intro m e w hI
  obtain ⟨i, hi, hin, hm, h5, hall, hE⟩ := hI
  refine c_know h5 ?_
  refine c_seq ?_
  refine c_seq ?_
  refine c_ops ?_
  refine l_val rfl rfl rfl (r_move rfl) ?_
  refine l_val rfl rfl rfl (r_gtr rfl rfl rfl) ?_
  refine l_nil ?_
  refine c_cond rfl (fun hb => ?_) (fun hb => ?_)
  · have hr10 := hb
    replace hb := of_decide_eq_true hb
    have hxw : Sl w.drew 1 RStr A n c xs := hx.keep RStr.kept (Ext0.cells hE.drew)
    have hsub : IntKind.i64.wrap (i - 1) = i - 1 := wrap_small (by omega) (by omega)
    have hL : Has w [] := trivial
    refine c_skip ?_
    refine c_seq ?_
    refine c_block ?_
    refine c_seq ?_
 
    refine c_draw mixed (hL) hE ?_
    replace hL := hL.drew
    replace hE := hE.drew
    have hK := hL
    refine h_t 0 rfl rfl (by kernel_rfl) (fun _ _ _ h => h) ⟨hK, hE⟩ rfl (fun W hW => r_move rfl) ?_
    refine h_t 1 rfl rfl (by kernel_rfl) (fun _ _ _ h => h) ⟨hK, hE⟩ rfl (fun W hW => r_move rfl) ?_
    refine h_t 2 rfl rfl (by kernel_rfl) (fun _ _ _ h => h) ⟨hK, hE⟩ rfl (fun W hW => r_move rfl) ?_
    refine h_t 3 rfl rfl (by kernel_rfl) (fun _ _ _ h => h) ⟨hK, hE⟩ rfl (fun W hW => r_indexAddr_sl rfl Tryz.underlying44 Tryz.sizeOf9 rfl hsome rfl (by omega) (by omega)) ?_
    refine h_t 4 rfl rfl (by kernel_rfl) (fun _ _ _ h => h) ⟨hK, hE⟩ rfl (fun W hW => r_load rfl Tryz.isAgg9 rfl ((hx.keep RStr.kept (Ext0.cells hW.2)).str i (by omega) (by omega))) ?_
    refine h_t 5 rfl rfl (by kernel_rfl) (fun _ _ _ h => h) ⟨hK, hE⟩ rfl (fun W hW => r_move rfl) ?_
    refine h_t 6 rfl rfl (by kernel_rfl) (fun _ _ _ h => h) ⟨hK, hE⟩ rfl (fun W hW => r_move rfl) ?_
    refine h_t 7 rfl rfl (by kernel_rfl) (fun _ _ _ h => h) ⟨hK, hE⟩ rfl (fun W hW => (r_sub rfl rfl rfl).trans (by rw [hsub])) ?_
    refine h_t 8 rfl rfl (by kernel_rfl) (fun _ _ _ h => h) ⟨hK, hE⟩ rfl (fun W hW => r_indexAddr_sl rfl Tryz.underlying44 Tryz.sizeOf9 rfl hsome rfl (by omega) (by omega)) ?_
    refine h_t 9 rfl rfl (by kernel_rfl) (fun _ _ _ h => h) ⟨hK, hE⟩ rfl (fun W hW => r_load rfl Tryz.isAgg9 rfl ((hx.keep RStr.kept (Ext0.cells hW.2)).str (i - 1) (by omega) (by omega))) ?_
    refine h_by 10 rfl rfl (by kernel_rfl) rfl (r_call rfl rfl Tryz.func70 rfl rfl) (may2_calls _ _ _) ?_
    rintro _ w ⟨rfl, hX⟩
    replace hE := hE.trans hX
    have hL : Has w [] := trivial
    have hK := hL
    refine ⟨_, rfl, ⟨hK, hE⟩, ?_⟩
    refine h_t 11 rfl rfl (by kernel_rfl) (fun _ _ _ h => h) ⟨hK, hE⟩ rfl (fun W hW => r_lss rfl rfl rfl) ?_
    refine h_done (by kernel_rfl) ?_
    refine c_cond rfl (fun hb => ?_) (fun hb => ?_)
    · have hr24 := hb
      replace hb := of_decide_eq_true hb
      refine c_seq ?_
   
      refine c_ops ?_
      refine l_val rfl rfl rfl (r_assign rfl) ?_
      refine l_nil ?_
      refine c_ret ?_
      exact ⟨ret_bool rfl (risesB_no i.toNat (by omega) (by omega) (by rw [show i.toNat - 1 = (i - 1).toNat by omega]; exact hb)).symm, hE⟩
    · have hr24 := hb
      replace hb := of_decide_eq_false hb
      have hall2 : ∀ j : Nat, i - 1 < j → 0 < j → j < xs.length → ¬ cmp2 (xs.getD j ByteArray.empty) (xs.getD (j - 1) ByteArray.empty) < 0 := by
        intro j h1 h0 h2
        rcases Int.lt_or_eq_of_le (show i ≤ j by omega) with h | h
        · exact hall j h h0 h2
        · obtain rfl : j = i.toNat := by omega
          rw [show i.toNat - 1 = (i - 1).toNat by omega]
          exact hb
      refine c_skip ?_
   
      refine c_ops ?_
      refine l_val rfl rfl rfl (r_move rfl) ?_
      refine l_val rfl rfl rfl (r_sub rfl rfl rfl) ?_
      refine l_val rfl rfl rfl (r_assign rfl) ?_
      refine l_nil ?_
      refine ⟨by repeat (first | exact Agree.over _ _ _ | exact Agree.refl _ _ | (refine Agree.puto ?_ _ _ rfl) | (refine Agree.put ?_ _ _ rfl) | (refine Agree.sub ?_ rfl)), ?_⟩
      exact ⟨i.toNat, by omega, i - 1, by omega, by omega, by omega, by show Value.int .i64 (IntKind.i64.wrap (i - 1)) = _; rw [wrap_small (by omega) (by omega)], hall2, hE⟩
  · have hr10 := hb
    replace hb := of_decide_eq_false hb
    refine c_exit ?_
    refine c_seq ?_
 
    refine c_ops ?_
    refine l_val rfl rfl rfl (r_assign rfl) ?_
    refine l_nil ?_
    refine c_ret ?_
    exact ⟨ret_bool rfl (risesB_yes (fun j h0 h1 => hall j (by omega) h0 h1)).symm, hE⟩
theorem Sl.and {α : Type} {w : World} {sz n c : Nat} {R : World → α → List Value → Prop} {A : Option Addr} {xs : List α} (h : Sl w sz R A n c xs) {q : α → Prop} (hq : ∀ x ∈ xs, q x) : Sl w sz (fun W x cs => R W x cs ∧ q x) A n c xs :=
  ⟨h.len, h.cap, h.max, h.is, fun i x hi => let ⟨cs, h1, h2, h3⟩ := h.at_ i x hi; ⟨cs, h1, ⟨h2, hq x (List.mem_of_getElem? hi)⟩, h3⟩⟩
def outB (n : Nat) (k : Int) : Bool := decide (k < 0) || decide ((n : Int) ≤ k)
def oddB (n : Nat) (x : GNode) : Bool := x.l.any (outB n) || (!decide (x.num = 0) && !decide (x.kind = 9)) || (!decide (x.name = ⟨#[]⟩) && !decide (x.kind = 5)) || (decide (0 < (x.keys.length : Int)) && !decide (x.kind = 7))
def diffB (l : List Int) : Bool := decide l.Nodup
def bareB (x : GNode) : Bool := decide (x.kind = 1 ∨ x.kind = 2 ∨ x.kind = 3 ∨ x.kind = 4)
def kindB (g : List GNode) (x : GNode) : Bool :=
  cond (bareB x) (decide ((x.l.length : Int) = 0))
  (cond (decide (x.kind = 5)) (decide ((x.l.length : Int) = 0) && (isNameB x.name || isKeyB x.name))
  (cond (decide (x.kind = 7)) (decide ((x.l.length : Int) = x.keys.length) && decide ((x.keys.length : Int) ≤ 16) && risesB x.keys && !x.keys.any (fun s => !isNameB s))
  (cond (decide (x.kind = 8)) (x.l.all (fun k => !decide ((gat g k).kind = 8)) && decide (2 ≤ (x.l.length : Int)) && diffB x.l)
  (cond (decide (x.kind = 9)) (decide (0 ≤ x.num) && decide (x.num < 16) && decide ((x.l.length : Int) = 1)) false))))
def mayB (g : List GNode) (x : GNode) : Bool := !oddB g.length x && kindB g x
def hadM (m : List (Int × Int)) (k : Int) : List (Int × Int) := setM m k (IntKind.i64.wrap ((getM m k).getD 0 + 1))
theorem setM_keys : ∀ (m : List (Int × Int)) (k v : Int), (setM m k v).map (·.1) = if k ∈ m.map (·.1) then m.map (·.1) else m.map (·.1) ++ [k]
  | [], _, _ => rfl
  | p :: r, k, v => by
    by_cases hp : p.1 = k
    · simp [setM, hp]
    · have ih := setM_keys r k v
      simp only [setM, hp, if_false, List.map_cons, ih, List.mem_cons]
      have : ¬ k = p.1 := fun e => hp e.symm
      simp only [this, false_or]
      split <;> simp
structure Had (l : List Int) (k : Nat) (m : List (Int × Int)) : Prop where
  mem : ∀ x, x ∈ l.take k ↔ x ∈ m.map (·.1)
  dup : (l.take k).Nodup ↔ m.length = k
  le : m.length ≤ k
theorem Had.zero (l : List Int) : Had l 0 [] := ⟨by simp, by simp, by simp⟩
theorem Had.succ {l : List Int} {k : Nat} {m : List (Int × Int)} (h : Had l k m) {x : Int} (hx : l[k]? = some x) : Had l (k + 1) (hadM m x) := by
  have hk := (List.getElem?_eq_some_iff.1 hx).1
  have ht : l.take (k + 1) = l.take k ++ [x] := by rw [List.take_add_one, hx]; rfl
  have hlen : ∀ m' : List (Int × Int), m'.length = (m'.map (·.1)).length := fun _ => by simp
  have hkeys : (hadM m x).map (·.1) = if x ∈ m.map (·.1) then m.map (·.1) else m.map (·.1) ++ [x] := setM_keys m x _
  have hle := h.le
  by_cases hm : x ∈ m.map (·.1)
  · rw [if_pos hm] at hkeys
    have hl : (hadM m x).length = m.length := by rw [hlen, hkeys, ← hlen]
    refine ⟨fun y => ?_, ?_, by omega⟩
    · rw [hkeys, ht, List.mem_append, h.mem, List.mem_singleton]
      exact ⟨fun h => h.elim id (fun e => e ▸ hm), .inl⟩
    · rw [hl, ht, List.nodup_append]
      constructor
      · rintro ⟨_, _, h3⟩
        exact absurd rfl (h3 x ((h.mem x).2 hm) x (by simp))
      · intro e; omega
  · rw [if_neg hm] at hkeys
    have hl : (hadM m x).length = m.length + 1 := by rw [hlen, hkeys, List.length_append, ← hlen]; rfl
    refine ⟨fun y => ?_, ?_, by omega⟩
    · rw [hkeys, ht, List.mem_append, List.mem_append, h.mem]
    · rw [hl, ht, List.nodup_append, h.dup]
      constructor
      · rintro ⟨h1, _, _⟩; omega
      · intro e
        refine ⟨by omega, by simp, ?_⟩
        rintro a ha b hb rfl
        rw [List.mem_singleton] at hb
        subst hb
        exact hm ((h.mem _).1 ha)
theorem may1_calls (w0 : World) (b : Nat) (A : Option Addr) (n c : Nat) (t : TypeId) (k : Int) (hL : Has w0 [.blk b (.cells #[.slice A n c] t (0, 0))]) : Calls Tryz.prog 66 [.int .i64 k, .pointer (some ⟨b, 0, none⟩)].toArray w0 fun en w' => en = .returned (.bool (outB n k)) ∧ Ext0 w0 w' := by
  have hE : Ext0 w0 w0 := Ext.refl _ _
  refine calls [3] Tryz.func66 rfl rfl rfl rfl ?_
  refine c_seq ?_
  refine c_ops ?_
  refine l_val rfl rfl rfl (r_assign rfl) ?_
  refine l_nil ?_
  refine c_seq ?_
  refine c_ops ?_
  refine l_val rfl rfl rfl (r_move rfl) ?_
  refine l_val rfl rfl rfl (r_lss rfl rfl rfl) ?_
  refine l_val rfl rfl rfl (r_move rfl) ?_
  refine l_case 6 rfl (fun hb => ?_) (fun hb => ?_)
  · have hr6 := hb
    replace hb := of_decide_eq_true hb
    refine l_not rfl rfl rfl ?_
    refine l_not rfl rfl rfl ?_
    refine l_not rfl rfl rfl ?_
    refine l_not rfl rfl rfl ?_
    refine l_val rfl rfl rfl (r_pick rfl rfl) ?_
    refine l_val rfl rfl rfl (r_assign rfl) ?_
    refine l_nil ?_
    refine c_ret ?_
    exact ⟨ret_bool rfl (by simp only [outB, hr6, Bool.true_and, Bool.and_true, Bool.false_and, Bool.and_false, Bool.true_or, Bool.or_true, Bool.false_or, Bool.or_false, Bool.not_true, Bool.not_false, cond_true, cond_false]), hE⟩
  · have hr6 := hb
    replace hb := of_decide_eq_false hb
    refine l_val rfl rfl rfl (r_move rfl) ?_
    refine l_val rfl rfl rfl (r_load_blk rfl Tryz.isAgg22 rfl (hL.get 0 rfl) rfl) ?_
    refine l_val rfl rfl rfl (r_len rfl Tryz.underlying22 rfl) ?_
    refine l_val rfl rfl rfl (r_geq rfl rfl rfl) ?_
    refine l_val rfl rfl rfl (r_pick rfl rfl) ?_
    refine l_val rfl rfl rfl (r_assign rfl) ?_
    refine l_nil ?_
    refine c_ret ?_
    exact ⟨ret_bool rfl (by simp only [outB, hr6, Bool.true_and, Bool.and_true, Bool.false_and, Bool.and_false, Bool.true_or, Bool.or_true, Bool.false_or, Bool.or_false, Bool.not_true, Bool.not_false, cond_true, cond_false]), hE⟩
theorem may3_calls (w0 : World) (s : ByteArray) (hk0 : KeysLaid w0) (hmax : s.size ≤ 9223372036854775807) : Calls Tryz.prog 73 [.string s].toArray w0 fun en w' => en = .returned (.bool (!isNameB s)) ∧ Ext0 w0 w' := by
  have hE : Ext0 w0 w0 := Ext.refl _ _
  refine calls [2] Tryz.func73 rfl rfl rfl rfl ?_
  refine c_seq ?_
  refine c_ops ?_
  refine l_val rfl rfl rfl (r_assign rfl) ?_
  refine l_nil ?_
  refine c_seq ?_
  refine c_ops ?_
  refine l_val rfl rfl rfl (r_move rfl) ?_
  refine l_by rfl rfl rfl (r_call rfl rfl Tryz.func67 rfl rfl) (IsName_calls _ _ hk0 hmax) ?_
  rintro _ w ⟨rfl, hX⟩
  replace hE := hE.trans hX
  refine ⟨_, rfl, ?_⟩
  refine l_val rfl rfl rfl (r_not rfl rfl) ?_
  refine l_val rfl rfl rfl (r_assign rfl) ?_
  refine l_nil ?_
  refine c_ret ?_
  exact ⟨rfl, hE⟩
end Go.Proofs.YtndophlnapjkhaaGreatDoor.Vc
namespace Go.Proofs.YtndophlnapjkhaaGreatDoor.Vc
open Go Go.RowKit
set_option linter.unusedVariables false
set_option linter.unusedSimpArgs false
def FitsN (x : GNode) : Prop := x.name.size ≤ 9223372036854775807 ∧ ∀ s ∈ x.keys, s.size ≤ 9223372036854775807
theorem outB_no {n : Nat} {k : Int} (h : outB n k = false) : 0 ≤ k ∧ k < n := by
  unfold outB at h
  simp at h
  omega
theorem any_false {α : Type} {p : α → Bool} {l : List α} {x : α} (h : l.any p = false) (hx : x ∈ l) : p x = false := by
  rw [List.any_eq_false] at h
  simpa using h x hx
theorem odd_l {n : Nat} {x : GNode} (h : oddB n x = false) : x.l.any (outB n) = false := by
  unfold oddB at h
  rw [Bool.or_eq_false_iff, Bool.or_eq_false_iff, Bool.or_eq_false_iff] at h
  exact h.1.1.1
theorem may_calls (w0 : World) (Ag : Option Addr) (cg : Nat) (g : List GNode) (hg : Nodes w0 Ag cg g) (x : GNode) (Ak : Option Addr) (ck : Nat) (Al : Option Addr) (cl : Nat) (hks : Strs w0 Ak ck x.keys) (hls : Ints w0 Al cl x.l) (hfit : FitsN x) (hk0 : KeysLaid w0) :
    Calls Tryz.prog 50 [.slice Ag g.length cg, .agg (nodeCells x Ak ck Al cl).toArray].toArray w0 fun en w' => en = .returned (.bool (mayB g x)) ∧ Ext0 w0 w' := by
  have hE : Ext0 w0 w0 := Ext.refl _ _
  have hL : Has w0 [] := trivial
  refine calls [4] Tryz.func50 rfl rfl rfl rfl ?_
  refine c_seq ?_
  refine c_ops ?_
  refine l_new rfl rfl rfl (n_box rfl hL hE) ?_
  rintro _ w ⟨b2, rfl, hb2, hL, hE, hX⟩
  refine l_new rfl rfl rfl (n_box rfl hL hE) ?_
  rintro _ w ⟨b3, rfl, hb3, hL, hE, hX⟩
  refine l_val rfl rfl rfl (r_assign rfl) ?_
  refine l_nil ?_
  refine c_seq ?_
  refine c_ops ?_
  refine l_val rfl rfl rfl (r_makeFunc rfl) ?_
  refine l_val rfl rfl rfl (r_assign rfl) ?_
  refine l_nil ?_
  refine c_seq ?_
  refine c_merge [11, 12, 13, 14, 15, 16, 17, 18, 19, 20, 21, 22, 23, 24, 25, 26, 27, 28, 29, 30, 31, 32, 33, 34, 35, 36, 37, 38, 39, 40, 41, 42, 43, 44, 45] (fun e w => e 45 = .bool (oddB g.length x) ∧ Has w [.blk b3 (.cells (nodeCells x Ak ck Al cl).toArray 46 (0, 0)), .blk b2 (.cells #[.slice Ag g.length cg] 22 (0, 0))] ∧ Ext0 w0 w) ?_ ?_
  · skip
 
    refine c_ops ?_
    refine l_val rfl rfl rfl (r_fieldAddr (n := 0) rfl Tryz.underlying46 rfl Tryz.sizeOf26 rfl) ?_
    refine l_val rfl rfl rfl (r_load_blk rfl Tryz.isAgg26 rfl (hL.get 0 rfl) rfl) ?_
    refine l_val rfl rfl rfl (r_move rfl) ?_
    have hT : Tests Tryz.prog (fun (_ : Unit) W => Has W [.blk b3 (.cells (nodeCells x Ak ck Al cl).toArray 46 (0, 0)), .blk b2 (.cells #[.slice Ag g.length cg] 22 (0, 0))]) (fun _ => False) (D1 RInt) (fun _ k => (outB g.length k, ())) (.func (.func 66) #[] #[.pointer (some ⟨b2, 0, none⟩)]) := ⟨_, _, _, _, _, rfl, Tryz.func66, rfl, rfl, fun _ k v W hs hv => (by
      obtain rfl : v = .int .i64 k := by injection hv
      exact (may1_calls W b2 Ag g.length cg _ k hs.tail).mono (fun en w' ⟨h1, h2⟩ => ⟨h1, h2, hs.ext0 h2⟩))⟩
    refine l_by rfl rfl rfl (r_call rfl rfl Tryz.func42 rfl rfl) (ContainsFunc_int (fun (_ : Unit) W => Has W [.blk b3 (.cells (nodeCells x Ak ck Al cl).toArray 46 (0, 0)), .blk b2 (.cells #[.slice Ag g.length cg] 22 (0, 0))]) (fun _ => False) RInt (fun _ k => (outB g.length k, ())) _ _ _ _ x.l _ () (fun W hW => hls.keep RInt.kept (Ext0.cells (hE.trans hW))) hT hL) ?_
    rintro _ w ⟨rfl, hX, hL⟩
    replace hE := hE.step0 hX
    rw [findS_pure]
    refine ⟨_, rfl, ?_⟩
    refine l_val rfl rfl rfl (r_move rfl) ?_
    refine l_case 15 rfl (fun hb => ?_) (fun hb => ?_)
    · have hr15 := hb
      refine l_not rfl rfl rfl ?_
      refine l_not rfl rfl rfl ?_
      refine l_not rfl rfl rfl ?_
      refine l_not rfl rfl rfl ?_
      refine l_not rfl rfl rfl ?_
      refine l_not rfl rfl rfl ?_
      refine l_not rfl rfl rfl ?_
      refine l_not rfl rfl rfl ?_
      refine l_val rfl rfl rfl (r_pick rfl rfl) ?_
      refine l_val rfl rfl rfl (r_move rfl) ?_
      refine l_not rfl rfl rfl ?_
      refine l_not rfl rfl rfl ?_
      refine l_not rfl rfl rfl ?_
      refine l_not rfl rfl rfl ?_
      refine l_not rfl rfl rfl ?_
      refine l_not rfl rfl rfl ?_
      refine l_not rfl rfl rfl ?_
      refine l_not rfl rfl rfl ?_
      refine l_val rfl rfl rfl (r_pick rfl rfl) ?_
      refine l_val rfl rfl rfl (r_move rfl) ?_
      refine l_not rfl rfl rfl ?_
      refine l_not rfl rfl rfl ?_
      refine l_not rfl rfl rfl ?_
      refine l_not rfl rfl rfl ?_
      refine l_not rfl rfl rfl ?_
      refine l_not rfl rfl rfl ?_
      refine l_not rfl rfl rfl ?_
      refine l_not rfl rfl rfl ?_
      refine l_not rfl rfl rfl ?_
      refine l_val rfl rfl rfl (r_pick rfl rfl) ?_
      refine l_nil ?_
      refine ⟨by repeat (first | exact Agree.over _ _ _ | exact Agree.refl _ _ | (refine Agree.puto ?_ _ _ rfl) | (refine Agree.put ?_ _ _ rfl) | (refine Agree.sub ?_ rfl)), ?_⟩
      exact ⟨congrArg Value.bool (by simp only [oddB, hr15, Bool.true_and, Bool.and_true, Bool.false_and, Bool.and_false, Bool.true_or, Bool.or_true, Bool.false_or, Bool.or_false, Bool.not_true, Bool.not_false, cond_true, cond_false]), hL, hE⟩
    · have hr15 := hb
      refine l_val rfl rfl rfl (r_fieldAddr (n := 0) rfl Tryz.underlying46 rfl Tryz.sizeOf3 rfl) ?_
      refine l_val rfl rfl rfl (r_load_blk rfl Tryz.isAgg3 rfl (hL.get 0 rfl) rfl) ?_
      refine l_val rfl rfl rfl (r_neq rfl rfl rfl) ?_
      refine l_val rfl rfl rfl (r_move rfl) ?_
      refine l_case 19 rfl (fun hb => ?_) (fun hb => ?_)
      · have hr19 := hb
        replace hb := of_decide_eq_false (by simpa using hb)
        refine l_val rfl rfl rfl (r_fieldAddr (n := 0) rfl Tryz.underlying46 rfl Tryz.sizeOf3 rfl) ?_
        refine l_val rfl rfl rfl (r_load_blk rfl Tryz.isAgg3 rfl (hL.get 0 rfl) rfl) ?_
        refine l_val rfl rfl rfl (r_neq rfl rfl rfl) ?_
        refine l_val rfl rfl rfl (r_pick rfl rfl) ?_
        refine l_val rfl rfl rfl (r_pick rfl rfl) ?_
        refine l_val rfl rfl rfl (r_move rfl) ?_
        refine l_case 25 rfl (fun hb => ?_) (fun hb => ?_)
        · have hr25 := hb
          replace hb := of_decide_eq_false (by simpa using hb)
          refine l_not rfl rfl rfl ?_
          refine l_not rfl rfl rfl ?_
          refine l_not rfl rfl rfl ?_
          refine l_not rfl rfl rfl ?_
          refine l_not rfl rfl rfl ?_
          refine l_not rfl rfl rfl ?_
          refine l_not rfl rfl rfl ?_
          refine l_not rfl rfl rfl ?_
          refine l_val rfl rfl rfl (r_pick rfl rfl) ?_
          refine l_val rfl rfl rfl (r_move rfl) ?_
          refine l_not rfl rfl rfl ?_
          refine l_not rfl rfl rfl ?_
          refine l_not rfl rfl rfl ?_
          refine l_not rfl rfl rfl ?_
          refine l_not rfl rfl rfl ?_
          refine l_not rfl rfl rfl ?_
          refine l_not rfl rfl rfl ?_
          refine l_not rfl rfl rfl ?_
          refine l_not rfl rfl rfl ?_
          refine l_val rfl rfl rfl (r_pick rfl rfl) ?_
          refine l_nil ?_
          refine ⟨by repeat (first | exact Agree.over _ _ _ | exact Agree.refl _ _ | (refine Agree.puto ?_ _ _ rfl) | (refine Agree.put ?_ _ _ rfl) | (refine Agree.sub ?_ rfl)), ?_⟩
          exact ⟨congrArg Value.bool (by simp only [oddB, hr15, hr19, hr25, Bool.true_and, Bool.and_true, Bool.false_and, Bool.and_false, Bool.true_or, Bool.or_true, Bool.false_or, Bool.or_false, Bool.not_true, Bool.not_false, cond_true, cond_false]), hL, hE⟩
        · have hr25 := hb
          replace hb := of_decide_eq_true (by simpa using hb)
          refine l_val rfl rfl rfl (r_fieldAddr (n := 0) rfl Tryz.underlying46 rfl Tryz.sizeOf9 rfl) ?_
          refine l_val rfl rfl rfl (r_load_blk rfl Tryz.isAgg9 rfl (hL.get 0 rfl) rfl) ?_
          refine l_val rfl rfl rfl (r_sneq rfl rfl rfl) ?_
          refine l_val rfl rfl rfl (r_move rfl) ?_
          refine l_case 29 rfl (fun hb => ?_) (fun hb => ?_)
          · have hr29 := hb
            replace hb := of_decide_eq_false (by simpa using hb)
            refine l_val rfl rfl rfl (r_fieldAddr (n := 0) rfl Tryz.underlying46 rfl Tryz.sizeOf3 rfl) ?_
            refine l_val rfl rfl rfl (r_load_blk rfl Tryz.isAgg3 rfl (hL.get 0 rfl) rfl) ?_
            refine l_val rfl rfl rfl (r_neq rfl rfl rfl) ?_
            refine l_val rfl rfl rfl (r_pick rfl rfl) ?_
            refine l_val rfl rfl rfl (r_pick rfl rfl) ?_
            refine l_val rfl rfl rfl (r_move rfl) ?_
            refine l_case 35 rfl (fun hb => ?_) (fun hb => ?_)
            · have hr35 := hb
              replace hb := of_decide_eq_false (by simpa using hb)
              refine l_not rfl rfl rfl ?_
              refine l_not rfl rfl rfl ?_
              refine l_not rfl rfl rfl ?_
              refine l_not rfl rfl rfl ?_
              refine l_not rfl rfl rfl ?_
              refine l_not rfl rfl rfl ?_
              refine l_not rfl rfl rfl ?_
              refine l_not rfl rfl rfl ?_
              refine l_not rfl rfl rfl ?_
              refine l_val rfl rfl rfl (r_pick rfl rfl) ?_
              refine l_nil ?_
              refine ⟨by repeat (first | exact Agree.over _ _ _ | exact Agree.refl _ _ | (refine Agree.puto ?_ _ _ rfl) | (refine Agree.put ?_ _ _ rfl) | (refine Agree.sub ?_ rfl)), ?_⟩
              exact ⟨congrArg Value.bool (by simp only [oddB, hr15, hr19, hr25, hr29, hr35, Bool.true_and, Bool.and_true, Bool.false_and, Bool.and_false, Bool.true_or, Bool.or_true, Bool.false_or, Bool.or_false, Bool.not_true, Bool.not_false, cond_true, cond_false]), hL, hE⟩
            · have hr35 := hb
              replace hb := of_decide_eq_true (by simpa using hb)
              refine l_val rfl rfl rfl (r_fieldAddr (n := 0) rfl Tryz.underlying46 rfl Tryz.sizeOf44 rfl) ?_
              refine l_val rfl rfl rfl (r_load_blk rfl Tryz.isAgg44 rfl (hL.get 0 rfl) rfl) ?_
              refine l_val rfl rfl rfl (r_len rfl Tryz.underlying44 rfl) ?_
              refine l_val rfl rfl rfl (r_gtr rfl rfl rfl) ?_
              refine l_val rfl rfl rfl (r_move rfl) ?_
              refine l_case 40 rfl (fun hb => ?_) (fun hb => ?_)
              · have hr40 := hb
                replace hb := of_decide_eq_true hb
                refine l_val rfl rfl rfl (r_fieldAddr (n := 0) rfl Tryz.underlying46 rfl Tryz.sizeOf3 rfl) ?_
                refine l_val rfl rfl rfl (r_load_blk rfl Tryz.isAgg3 rfl (hL.get 0 rfl) rfl) ?_
                refine l_val rfl rfl rfl (r_neq rfl rfl rfl) ?_
                refine l_val rfl rfl rfl (r_pick rfl rfl) ?_
                refine l_val rfl rfl rfl (r_pick rfl rfl) ?_
                refine l_nil ?_
                refine ⟨by repeat (first | exact Agree.over _ _ _ | exact Agree.refl _ _ | (refine Agree.puto ?_ _ _ rfl) | (refine Agree.put ?_ _ _ rfl) | (refine Agree.sub ?_ rfl)), ?_⟩
                exact ⟨congrArg Value.bool (by simp only [oddB, hr15, hr19, hr25, hr29, hr35, hr40, Bool.true_and, Bool.and_true, Bool.false_and, Bool.and_false, Bool.true_or, Bool.or_true, Bool.false_or, Bool.or_false, Bool.not_true, Bool.not_false, cond_true, cond_false]), hL, hE⟩
              · have hr40 := hb
                replace hb := of_decide_eq_false hb
                refine l_not rfl rfl rfl ?_
                refine l_not rfl rfl rfl ?_
                refine l_not rfl rfl rfl ?_
                refine l_val rfl rfl rfl (r_pick rfl rfl) ?_
                refine l_val rfl rfl rfl (r_pick rfl rfl) ?_
                refine l_nil ?_
                refine ⟨by repeat (first | exact Agree.over _ _ _ | exact Agree.refl _ _ | (refine Agree.puto ?_ _ _ rfl) | (refine Agree.put ?_ _ _ rfl) | (refine Agree.sub ?_ rfl)), ?_⟩
                exact ⟨congrArg Value.bool (by simp only [oddB, hr15, hr19, hr25, hr29, hr35, hr40, Bool.true_and, Bool.and_true, Bool.false_and, Bool.and_false, Bool.true_or, Bool.or_true, Bool.false_or, Bool.or_false, Bool.not_true, Bool.not_false, cond_true, cond_false]), hL, hE⟩
          · have hr29 := hb
            replace hb := of_decide_eq_true (by simpa using hb)
            refine l_not rfl rfl rfl ?_
            refine l_not rfl rfl rfl ?_
            refine l_not rfl rfl rfl ?_
            refine l_val rfl rfl rfl (r_pick rfl rfl) ?_
            refine l_val rfl rfl rfl (r_pick rfl rfl) ?_
            refine l_val rfl rfl rfl (r_move rfl) ?_
            refine l_val rfl rfl rfl (r_fieldAddr (n := 0) rfl Tryz.underlying46 rfl Tryz.sizeOf44 rfl) ?_
            refine l_val rfl rfl rfl (r_load_blk rfl Tryz.isAgg44 rfl (hL.get 0 rfl) rfl) ?_
            refine l_val rfl rfl rfl (r_len rfl Tryz.underlying44 rfl) ?_
            refine l_val rfl rfl rfl (r_gtr rfl rfl rfl) ?_
            refine l_val rfl rfl rfl (r_move rfl) ?_
            refine l_case 40 rfl (fun hb => ?_) (fun hb => ?_)
            · have hr40 := hb
              replace hb := of_decide_eq_true hb
              refine l_val rfl rfl rfl (r_fieldAddr (n := 0) rfl Tryz.underlying46 rfl Tryz.sizeOf3 rfl) ?_
              refine l_val rfl rfl rfl (r_load_blk rfl Tryz.isAgg3 rfl (hL.get 0 rfl) rfl) ?_
              refine l_val rfl rfl rfl (r_neq rfl rfl rfl) ?_
              refine l_val rfl rfl rfl (r_pick rfl rfl) ?_
              refine l_val rfl rfl rfl (r_pick rfl rfl) ?_
              refine l_nil ?_
              refine ⟨by repeat (first | exact Agree.over _ _ _ | exact Agree.refl _ _ | (refine Agree.puto ?_ _ _ rfl) | (refine Agree.put ?_ _ _ rfl) | (refine Agree.sub ?_ rfl)), ?_⟩
              exact ⟨congrArg Value.bool (by simp only [oddB, hr15, hr19, hr25, hr29, hr40, Bool.true_and, Bool.and_true, Bool.false_and, Bool.and_false, Bool.true_or, Bool.or_true, Bool.false_or, Bool.or_false, Bool.not_true, Bool.not_false, cond_true, cond_false]), hL, hE⟩
            · have hr40 := hb
              replace hb := of_decide_eq_false hb
              refine l_not rfl rfl rfl ?_
              refine l_not rfl rfl rfl ?_
              refine l_not rfl rfl rfl ?_
              refine l_val rfl rfl rfl (r_pick rfl rfl) ?_
              refine l_val rfl rfl rfl (r_pick rfl rfl) ?_
              refine l_nil ?_
              refine ⟨by repeat (first | exact Agree.over _ _ _ | exact Agree.refl _ _ | (refine Agree.puto ?_ _ _ rfl) | (refine Agree.put ?_ _ _ rfl) | (refine Agree.sub ?_ rfl)), ?_⟩
              exact ⟨congrArg Value.bool (by simp only [oddB, hr15, hr19, hr25, hr29, hr40, Bool.true_and, Bool.and_true, Bool.false_and, Bool.and_false, Bool.true_or, Bool.or_true, Bool.false_or, Bool.or_false, Bool.not_true, Bool.not_false, cond_true, cond_false]), hL, hE⟩
      · have hr19 := hb
        replace hb := of_decide_eq_true (by simpa using hb)
        refine l_not rfl rfl rfl ?_
        refine l_not rfl rfl rfl ?_
        refine l_not rfl rfl rfl ?_
        refine l_val rfl rfl rfl (r_pick rfl rfl) ?_
        refine l_val rfl rfl rfl (r_pick rfl rfl) ?_
        refine l_val rfl rfl rfl (r_move rfl) ?_
        refine l_val rfl rfl rfl (r_fieldAddr (n := 0) rfl Tryz.underlying46 rfl Tryz.sizeOf9 rfl) ?_
        refine l_val rfl rfl rfl (r_load_blk rfl Tryz.isAgg9 rfl (hL.get 0 rfl) rfl) ?_
        refine l_val rfl rfl rfl (r_sneq rfl rfl rfl) ?_
        refine l_val rfl rfl rfl (r_move rfl) ?_
        refine l_case 29 rfl (fun hb => ?_) (fun hb => ?_)
        · have hr29 := hb
          replace hb := of_decide_eq_false (by simpa using hb)
          refine l_val rfl rfl rfl (r_fieldAddr (n := 0) rfl Tryz.underlying46 rfl Tryz.sizeOf3 rfl) ?_
          refine l_val rfl rfl rfl (r_load_blk rfl Tryz.isAgg3 rfl (hL.get 0 rfl) rfl) ?_
          refine l_val rfl rfl rfl (r_neq rfl rfl rfl) ?_
          refine l_val rfl rfl rfl (r_pick rfl rfl) ?_
          refine l_val rfl rfl rfl (r_pick rfl rfl) ?_
          refine l_val rfl rfl rfl (r_move rfl) ?_
          refine l_case 35 rfl (fun hb => ?_) (fun hb => ?_)
          · have hr35 := hb
            replace hb := of_decide_eq_false (by simpa using hb)
            refine l_not rfl rfl rfl ?_
            refine l_not rfl rfl rfl ?_
            refine l_not rfl rfl rfl ?_
            refine l_not rfl rfl rfl ?_
            refine l_not rfl rfl rfl ?_
            refine l_not rfl rfl rfl ?_
            refine l_not rfl rfl rfl ?_
            refine l_not rfl rfl rfl ?_
            refine l_not rfl rfl rfl ?_
            refine l_val rfl rfl rfl (r_pick rfl rfl) ?_
            refine l_nil ?_
            refine ⟨by repeat (first | exact Agree.over _ _ _ | exact Agree.refl _ _ | (refine Agree.puto ?_ _ _ rfl) | (refine Agree.put ?_ _ _ rfl) | (refine Agree.sub ?_ rfl)), ?_⟩
            exact ⟨congrArg Value.bool (by simp only [oddB, hr15, hr19, hr29, hr35, Bool.true_and, Bool.and_true, Bool.false_and, Bool.and_false, Bool.true_or, Bool.or_true, Bool.false_or, Bool.or_false, Bool.not_true, Bool.not_false, cond_true, cond_false]), hL, hE⟩
          · have hr35 := hb
            replace hb := of_decide_eq_true (by simpa using hb)
            refine l_val rfl rfl rfl (r_fieldAddr (n := 0) rfl Tryz.underlying46 rfl Tryz.sizeOf44 rfl) ?_
            refine l_val rfl rfl rfl (r_load_blk rfl Tryz.isAgg44 rfl (hL.get 0 rfl) rfl) ?_
            refine l_val rfl rfl rfl (r_len rfl Tryz.underlying44 rfl) ?_
            refine l_val rfl rfl rfl (r_gtr rfl rfl rfl) ?_
            refine l_val rfl rfl rfl (r_move rfl) ?_
            refine l_case 40 rfl (fun hb => ?_) (fun hb => ?_)
            · have hr40 := hb
              replace hb := of_decide_eq_true hb
              refine l_val rfl rfl rfl (r_fieldAddr (n := 0) rfl Tryz.underlying46 rfl Tryz.sizeOf3 rfl) ?_
              refine l_val rfl rfl rfl (r_load_blk rfl Tryz.isAgg3 rfl (hL.get 0 rfl) rfl) ?_
              refine l_val rfl rfl rfl (r_neq rfl rfl rfl) ?_
              refine l_val rfl rfl rfl (r_pick rfl rfl) ?_
              refine l_val rfl rfl rfl (r_pick rfl rfl) ?_
              refine l_nil ?_
              refine ⟨by repeat (first | exact Agree.over _ _ _ | exact Agree.refl _ _ | (refine Agree.puto ?_ _ _ rfl) | (refine Agree.put ?_ _ _ rfl) | (refine Agree.sub ?_ rfl)), ?_⟩
              exact ⟨congrArg Value.bool (by simp only [oddB, hr15, hr19, hr29, hr35, hr40, Bool.true_and, Bool.and_true, Bool.false_and, Bool.and_false, Bool.true_or, Bool.or_true, Bool.false_or, Bool.or_false, Bool.not_true, Bool.not_false, cond_true, cond_false]), hL, hE⟩
            · have hr40 := hb
              replace hb := of_decide_eq_false hb
              refine l_not rfl rfl rfl ?_
              refine l_not rfl rfl rfl ?_
              refine l_not rfl rfl rfl ?_
              refine l_val rfl rfl rfl (r_pick rfl rfl) ?_
              refine l_val rfl rfl rfl (r_pick rfl rfl) ?_
              refine l_nil ?_
              refine ⟨by repeat (first | exact Agree.over _ _ _ | exact Agree.refl _ _ | (refine Agree.puto ?_ _ _ rfl) | (refine Agree.put ?_ _ _ rfl) | (refine Agree.sub ?_ rfl)), ?_⟩
              exact ⟨congrArg Value.bool (by simp only [oddB, hr15, hr19, hr29, hr35, hr40, Bool.true_and, Bool.and_true, Bool.false_and, Bool.and_false, Bool.true_or, Bool.or_true, Bool.false_or, Bool.or_false, Bool.not_true, Bool.not_false, cond_true, cond_false]), hL, hE⟩
        · have hr29 := hb
          replace hb := of_decide_eq_true (by simpa using hb)
          refine l_not rfl rfl rfl ?_
          refine l_not rfl rfl rfl ?_
          refine l_not rfl rfl rfl ?_
          refine l_val rfl rfl rfl (r_pick rfl rfl) ?_
          refine l_val rfl rfl rfl (r_pick rfl rfl) ?_
          refine l_val rfl rfl rfl (r_move rfl) ?_
          refine l_val rfl rfl rfl (r_fieldAddr (n := 0) rfl Tryz.underlying46 rfl Tryz.sizeOf44 rfl) ?_
          refine l_val rfl rfl rfl (r_load_blk rfl Tryz.isAgg44 rfl (hL.get 0 rfl) rfl) ?_
          refine l_val rfl rfl rfl (r_len rfl Tryz.underlying44 rfl) ?_
          refine l_val rfl rfl rfl (r_gtr rfl rfl rfl) ?_
          refine l_val rfl rfl rfl (r_move rfl) ?_
          refine l_case 40 rfl (fun hb => ?_) (fun hb => ?_)
          · have hr40 := hb
            replace hb := of_decide_eq_true hb
            refine l_val rfl rfl rfl (r_fieldAddr (n := 0) rfl Tryz.underlying46 rfl Tryz.sizeOf3 rfl) ?_
            refine l_val rfl rfl rfl (r_load_blk rfl Tryz.isAgg3 rfl (hL.get 0 rfl) rfl) ?_
            refine l_val rfl rfl rfl (r_neq rfl rfl rfl) ?_
            refine l_val rfl rfl rfl (r_pick rfl rfl) ?_
            refine l_val rfl rfl rfl (r_pick rfl rfl) ?_
            refine l_nil ?_
            refine ⟨by repeat (first | exact Agree.over _ _ _ | exact Agree.refl _ _ | (refine Agree.puto ?_ _ _ rfl) | (refine Agree.put ?_ _ _ rfl) | (refine Agree.sub ?_ rfl)), ?_⟩
            exact ⟨congrArg Value.bool (by simp only [oddB, hr15, hr19, hr29, hr40, Bool.true_and, Bool.and_true, Bool.false_and, Bool.and_false, Bool.true_or, Bool.or_true, Bool.false_or, Bool.or_false, Bool.not_true, Bool.not_false, cond_true, cond_false]), hL, hE⟩
          · have hr40 := hb
            replace hb := of_decide_eq_false hb
            refine l_not rfl rfl rfl ?_
            refine l_not rfl rfl rfl ?_
            refine l_not rfl rfl rfl ?_
            refine l_val rfl rfl rfl (r_pick rfl rfl) ?_
            refine l_val rfl rfl rfl (r_pick rfl rfl) ?_
            refine l_nil ?_
            refine ⟨by repeat (first | exact Agree.over _ _ _ | exact Agree.refl _ _ | (refine Agree.puto ?_ _ _ rfl) | (refine Agree.put ?_ _ _ rfl) | (refine Agree.sub ?_ rfl)), ?_⟩
            exact ⟨congrArg Value.bool (by simp only [oddB, hr15, hr19, hr29, hr40, Bool.true_and, Bool.and_true, Bool.false_and, Bool.and_false, Bool.true_or, Bool.or_true, Bool.false_or, Bool.or_false, Bool.not_true, Bool.not_false, cond_true, cond_false]), hL, hE⟩
  rintro e w hI
  obtain ⟨h45, hL, hE⟩ := hI
  refine c_know h45 ?_
  refine c_cond rfl (fun hb => ?_) (fun hb => ?_)
  · have hr45 := hb
    refine c_seq ?_
 
    refine c_ops ?_
    refine l_val rfl rfl rfl (r_assign rfl) ?_
    refine l_nil ?_
    refine c_ret ?_
    exact ⟨ret_bool rfl (by simp only [mayB, kindB, hr45, Bool.true_and, Bool.and_true, Bool.false_and, Bool.and_false, Bool.true_or, Bool.or_true, Bool.false_or, Bool.or_false, Bool.not_true, Bool.not_false, cond_true, cond_false]), hE⟩
  · have hr45 := hb
    refine c_skip ?_
    refine c_seq ?_
    refine c_seq ?_
 
    refine c_ops ?_
    refine l_val rfl rfl rfl (r_fieldAddr (n := 0) rfl Tryz.underlying46 rfl Tryz.sizeOf3 rfl) ?_
    refine l_val rfl rfl rfl (r_load_blk rfl Tryz.isAgg3 rfl (hL.get 0 rfl) rfl) ?_
    refine l_nil ?_
    refine c_block ?_
    refine c_merge [48, 49, 50, 51, 52] (fun e w => e 48 = .bool (bareB x) ∧ Has w [.blk b3 (.cells (nodeCells x Ak ck Al cl).toArray 46 (0, 0)), .blk b2 (.cells #[.slice Ag g.length cg] 22 (0, 0))] ∧ Ext0 w0 w) ?_ ?_
    · refine c_seq ?_
   
      refine c_ops ?_
      refine l_val rfl rfl rfl (r_eql rfl rfl rfl) ?_
      refine l_val rfl rfl rfl (r_assign rfl) ?_
      refine l_nil ?_
      refine c_cond rfl (fun hb => ?_) (fun hb => ?_)
      · have hr48 := hb
        replace hb := of_decide_eq_true hb
        refine c_skip ?_
        refine ⟨by repeat (first | exact Agree.over _ _ _ | exact Agree.refl _ _ | (refine Agree.puto ?_ _ _ rfl) | (refine Agree.put ?_ _ _ rfl) | (refine Agree.sub ?_ rfl)), ?_⟩
        exact ⟨congrArg Value.bool (by simp_all [bareB]), hL, hE⟩
      · have hr48 := hb
        replace hb := of_decide_eq_false hb
        refine c_seq ?_
     
        refine c_ops ?_
        refine l_val rfl rfl rfl (r_eql rfl rfl rfl) ?_
        refine l_val rfl rfl rfl (r_assign rfl) ?_
        refine l_nil ?_
        refine c_cond rfl (fun hb => ?_) (fun hb => ?_)
        · have hr48' := hb
          replace hb := of_decide_eq_true hb
          refine c_skip ?_
          refine ⟨by repeat (first | exact Agree.over _ _ _ | exact Agree.refl _ _ | (refine Agree.puto ?_ _ _ rfl) | (refine Agree.put ?_ _ _ rfl) | (refine Agree.sub ?_ rfl)), ?_⟩
          exact ⟨congrArg Value.bool (by simp_all [bareB]), hL, hE⟩
        · have hr48' := hb
          replace hb := of_decide_eq_false hb
          refine c_seq ?_
       
          refine c_ops ?_
          refine l_val rfl rfl rfl (r_eql rfl rfl rfl) ?_
          refine l_val rfl rfl rfl (r_assign rfl) ?_
          refine l_nil ?_
          refine c_cond rfl (fun hb => ?_) (fun hb => ?_)
          · have hr48'' := hb
            replace hb := of_decide_eq_true hb
            refine c_skip ?_
            refine ⟨by repeat (first | exact Agree.over _ _ _ | exact Agree.refl _ _ | (refine Agree.puto ?_ _ _ rfl) | (refine Agree.put ?_ _ _ rfl) | (refine Agree.sub ?_ rfl)), ?_⟩
            exact ⟨congrArg Value.bool (by simp_all [bareB]), hL, hE⟩
          · have hr48'' := hb
            replace hb := of_decide_eq_false hb
         
            refine c_ops ?_
            refine l_val rfl rfl rfl (r_eql rfl rfl rfl) ?_
            refine l_val rfl rfl rfl (r_assign rfl) ?_
            refine l_nil ?_
            refine ⟨by repeat (first | exact Agree.over _ _ _ | exact Agree.refl _ _ | (refine Agree.puto ?_ _ _ rfl) | (refine Agree.put ?_ _ _ rfl) | (refine Agree.sub ?_ rfl)), ?_⟩
            exact ⟨congrArg Value.bool (by simp_all [bareB]), hL, hE⟩
    rintro e w hI
    obtain ⟨h48, hL, hE⟩ := hI
    refine c_know h48 ?_
    refine c_cond rfl (fun hb => ?_) (fun hb => ?_)
    · have hr48 := hb
      refine c_seq ?_
   
      refine c_ops ?_
      refine l_val rfl rfl rfl (r_fieldAddr (n := 0) rfl Tryz.underlying46 rfl Tryz.sizeOf26 rfl) ?_
      refine l_val rfl rfl rfl (r_load_blk rfl Tryz.isAgg26 rfl (hL.get 0 rfl) rfl) ?_
      refine l_val rfl rfl rfl (r_len rfl Tryz.underlying26 rfl) ?_
      refine l_val rfl rfl rfl (r_eql rfl rfl rfl) ?_
      refine l_val rfl rfl rfl (r_assign rfl) ?_
      refine l_nil ?_
      refine c_ret ?_
      exact ⟨ret_bool rfl (by simp only [mayB, kindB, hr45, hr48, Bool.true_and, Bool.and_true, Bool.false_and, Bool.and_false, Bool.true_or, Bool.or_true, Bool.false_or, Bool.or_false, Bool.not_true, Bool.not_false, cond_true, cond_false]), hE⟩
    · have hr48 := hb
      refine c_seq ?_
   
      refine c_ops ?_
      refine l_val rfl rfl rfl (r_eql rfl rfl rfl) ?_
      refine l_val rfl rfl rfl (r_assign rfl) ?_
      refine l_nil ?_
      refine c_cond rfl (fun hb => ?_) (fun hb => ?_)
      · have hr57 := hb
        replace hb := of_decide_eq_true hb
        refine c_seq ?_
     
        refine c_ops ?_
        refine l_val rfl rfl rfl (r_fieldAddr (n := 0) rfl Tryz.underlying46 rfl Tryz.sizeOf26 rfl) ?_
        refine l_val rfl rfl rfl (r_load_blk rfl Tryz.isAgg26 rfl (hL.get 0 rfl) rfl) ?_
        refine l_val rfl rfl rfl (r_len rfl Tryz.underlying26 rfl) ?_
        refine l_val rfl rfl rfl (r_eql rfl rfl rfl) ?_
        refine l_val rfl rfl rfl (r_move rfl) ?_
        refine l_case 63 rfl (fun hb => ?_) (fun hb => ?_)
        · have hr63 := hb
          replace hb := of_decide_eq_true hb
          refine l_val rfl rfl rfl (r_fieldAddr (n := 0) rfl Tryz.underlying46 rfl Tryz.sizeOf9 rfl) ?_
          refine l_val rfl rfl rfl (r_load_blk rfl Tryz.isAgg9 rfl (hL.get 0 rfl) rfl) ?_
          refine l_by rfl rfl rfl (r_call rfl rfl Tryz.func67 rfl rfl) (IsName_calls _ _ (hk0.keep (Ext0.cells hE)) hfit.1) ?_
          rintro _ w ⟨rfl, hX⟩
          replace hL := hL.ext0 hX
          replace hE := hE.step0 hX
          refine ⟨_, rfl, ?_⟩
          refine l_val rfl rfl rfl (r_move rfl) ?_
          refine l_case 67 rfl (fun hb => ?_) (fun hb => ?_)
          · have hr67 := hb
            refine l_not rfl rfl rfl ?_
            refine l_not rfl rfl rfl ?_
            refine l_not rfl rfl rfl ?_
            refine l_val rfl rfl rfl (r_pick rfl rfl) ?_
            refine l_val rfl rfl rfl (r_pick rfl rfl) ?_
            refine l_val rfl rfl rfl (r_assign rfl) ?_
            refine l_nil ?_
            refine c_ret ?_
            exact ⟨ret_bool rfl (by simp only [mayB, kindB, hr45, hr48, hr57, hr63, hr67, Bool.true_and, Bool.and_true, Bool.false_and, Bool.and_false, Bool.true_or, Bool.or_true, Bool.false_or, Bool.or_false, Bool.not_true, Bool.not_false, cond_true, cond_false]), hE⟩
          · have hr67 := hb
            refine l_val rfl rfl rfl (r_fieldAddr (n := 0) rfl Tryz.underlying46 rfl Tryz.sizeOf9 rfl) ?_
            refine l_val rfl rfl rfl (r_load_blk rfl Tryz.isAgg9 rfl (hL.get 0 rfl) rfl) ?_
            refine l_by rfl rfl rfl (r_call rfl rfl Tryz.func68 rfl rfl) (IsKey_calls _ _ (hk0.keep (Ext0.cells hE))) ?_
            rintro _ w ⟨rfl, hX⟩
            replace hL := hL.ext0 hX
            replace hE := hE.step0 hX
            refine ⟨_, rfl, ?_⟩
            refine l_val rfl rfl rfl (r_pick rfl rfl) ?_
            refine l_val rfl rfl rfl (r_pick rfl rfl) ?_
            refine l_val rfl rfl rfl (r_assign rfl) ?_
            refine l_nil ?_
            refine c_ret ?_
            exact ⟨ret_bool rfl (by simp only [mayB, kindB, hr45, hr48, hr57, hr63, hr67, Bool.true_and, Bool.and_true, Bool.false_and, Bool.and_false, Bool.true_or, Bool.or_true, Bool.false_or, Bool.or_false, Bool.not_true, Bool.not_false, cond_true, cond_false]), hE⟩
        · have hr63 := hb
          replace hb := of_decide_eq_false hb
          refine l_not rfl rfl rfl ?_
          refine l_not rfl rfl rfl ?_
          refine l_not rfl rfl rfl ?_
          refine l_not rfl rfl rfl ?_
          refine l_not rfl rfl rfl ?_
          refine l_not rfl rfl rfl ?_
          refine l_not rfl rfl rfl ?_
          refine l_not rfl rfl rfl ?_
          refine l_val rfl rfl rfl (r_pick rfl rfl) ?_
          refine l_val rfl rfl rfl (r_assign rfl) ?_
          refine l_nil ?_
          refine c_ret ?_
          exact ⟨ret_bool rfl (by simp only [mayB, kindB, hr45, hr48, hr57, hr63, Bool.true_and, Bool.and_true, Bool.false_and, Bool.and_false, Bool.true_or, Bool.or_true, Bool.false_or, Bool.or_false, Bool.not_true, Bool.not_false, cond_true, cond_false]), hE⟩
      · have hr57 := hb
        replace hb := of_decide_eq_false hb
        refine c_seq ?_
     
        refine c_ops ?_
        refine l_val rfl rfl rfl (r_eql rfl rfl rfl) ?_
        refine l_val rfl rfl rfl (r_assign rfl) ?_
        refine l_nil ?_
        refine c_cond rfl (fun hb => ?_) (fun hb => ?_)
        · have hr73 := hb
          replace hb := of_decide_eq_true hb
          refine c_seq ?_
       
          refine c_ops ?_
          refine l_val rfl rfl rfl (r_fieldAddr (n := 0) rfl Tryz.underlying46 rfl Tryz.sizeOf44 rfl) ?_
          refine l_val rfl rfl rfl (r_load_blk rfl Tryz.isAgg44 rfl (hL.get 0 rfl) rfl) ?_
          refine l_by rfl rfl rfl (r_call rfl rfl Tryz.func69 rfl rfl) (IsSorted_calls _ _ _ _ x.keys (hks.keep RStr.kept (Ext0.cells hE))) ?_
          rintro _ w ⟨rfl, hX⟩
          replace hL := hL.ext0 hX
          replace hE := hE.step0 hX
          refine ⟨_, rfl, ?_⟩
          refine l_val rfl rfl rfl (r_assign rfl) ?_
          refine l_nil ?_
          refine c_seq ?_
       
          refine c_ops ?_
          refine l_val rfl rfl rfl (r_fieldAddr (n := 0) rfl Tryz.underlying46 rfl Tryz.sizeOf26 rfl) ?_
          refine l_val rfl rfl rfl (r_load_blk rfl Tryz.isAgg26 rfl (hL.get 0 rfl) rfl) ?_
          refine l_val rfl rfl rfl (r_len rfl Tryz.underlying26 rfl) ?_
          refine l_val rfl rfl rfl (r_fieldAddr (n := 0) rfl Tryz.underlying46 rfl Tryz.sizeOf44 rfl) ?_
          refine l_val rfl rfl rfl (r_load_blk rfl Tryz.isAgg44 rfl (hL.get 0 rfl) rfl) ?_
          refine l_val rfl rfl rfl (r_len rfl Tryz.underlying44 rfl) ?_
          refine l_val rfl rfl rfl (r_eql rfl rfl rfl) ?_
          refine l_val rfl rfl rfl (r_move rfl) ?_
          refine l_case 85 rfl (fun hb => ?_) (fun hb => ?_)
          · have hr85 := hb
            replace hb := of_decide_eq_true hb
            refine l_val rfl rfl rfl (r_fieldAddr (n := 0) rfl Tryz.underlying46 rfl Tryz.sizeOf44 rfl) ?_
            refine l_val rfl rfl rfl (r_load_blk rfl Tryz.isAgg44 rfl (hL.get 0 rfl) rfl) ?_
            refine l_val rfl rfl rfl (r_len rfl Tryz.underlying44 rfl) ?_
            refine l_val rfl rfl rfl (r_leq rfl rfl rfl) ?_
            refine l_val rfl rfl rfl (r_pick rfl rfl) ?_
            refine l_val rfl rfl rfl (r_move rfl) ?_
            refine l_case 91 rfl (fun hb => ?_) (fun hb => ?_)
            · have hr91 := hb
              replace hb := of_decide_eq_true hb
              refine l_val rfl rfl rfl (r_move rfl) ?_
              refine l_val rfl rfl rfl (r_pick rfl rfl) ?_
              refine l_val rfl rfl rfl (r_move rfl) ?_
              refine l_case 94 rfl (fun hb => ?_) (fun hb => ?_)
              · have hr94 := hb
                refine l_val rfl rfl rfl (r_fieldAddr (n := 0) rfl Tryz.underlying46 rfl Tryz.sizeOf44 rfl) ?_
                refine l_val rfl rfl rfl (r_load_blk rfl Tryz.isAgg44 rfl (hL.get 0 rfl) rfl) ?_
                have hT : Tests Tryz.prog (fun (_ : Unit) W => Ext0 w0 W) (fun _ => False) (D1 (fun W s cs => RStr W s cs ∧ s.size ≤ 9223372036854775807)) (fun _ s => (!isNameB s, ())) (.func (.func 73) #[] #[]) := ⟨_, _, _, _, _, rfl, Tryz.func73, rfl, rfl, fun _ s v W hs hv => (by
                  obtain rfl : v = .string s := by injection hv.1
                  exact (may3_calls W s (hk0.keep (Ext0.cells hs)) hv.2).mono (fun en w' ⟨h1, h2⟩ => ⟨h1, h2, hs.trans h2⟩))⟩
                refine l_by rfl rfl rfl (r_call rfl rfl Tryz.func72 rfl rfl) (ContainsFunc_str (fun (_ : Unit) W => Ext0 w0 W) (fun _ => False) (fun W s cs => RStr W s cs ∧ s.size ≤ 9223372036854775807) (fun _ s => (!isNameB s, ())) _ _ _ _ x.keys _ () (fun W hW => (hks.keep RStr.kept (Ext0.cells (hE.trans hW))).and (fun s hs => hfit.2 s hs)) hT hE) ?_
                rintro _ w ⟨rfl, hX, _⟩
                replace hL := hL.ext0 hX
                replace hE := hE.step0 hX
                rw [findS_pure]
                refine ⟨_, rfl, ?_⟩
                refine l_val rfl rfl rfl (r_not rfl rfl) ?_
                refine l_val rfl rfl rfl (r_pick rfl rfl) ?_
                refine l_val rfl rfl rfl (r_assign rfl) ?_
                refine l_nil ?_
                refine c_ret ?_
                exact ⟨ret_bool rfl (by simp only [mayB, kindB, hr45, hr48, hr57, hr73, hr85, hr91, hr94, Bool.true_and, Bool.and_true, Bool.false_and, Bool.and_false, Bool.true_or, Bool.or_true, Bool.false_or, Bool.or_false, Bool.not_true, Bool.not_false, cond_true, cond_false]), hE⟩
              · have hr94 := hb
                refine l_not rfl rfl rfl ?_
                refine l_not rfl rfl rfl ?_
                refine l_not rfl rfl rfl ?_
                refine l_not rfl rfl rfl ?_
                refine l_val rfl rfl rfl (r_pick rfl rfl) ?_
                refine l_val rfl rfl rfl (r_assign rfl) ?_
                refine l_nil ?_
                refine c_ret ?_
                exact ⟨ret_bool rfl (by simp only [mayB, kindB, hr45, hr48, hr57, hr73, hr85, hr91, hr94, Bool.true_and, Bool.and_true, Bool.false_and, Bool.and_false, Bool.true_or, Bool.or_true, Bool.false_or, Bool.or_false, Bool.not_true, Bool.not_false, cond_true, cond_false]), hE⟩
            · have hr91 := hb
              replace hb := of_decide_eq_false hb
              refine l_not rfl rfl rfl ?_
              refine l_val rfl rfl rfl (r_pick rfl rfl) ?_
              refine l_val rfl rfl rfl (r_move rfl) ?_
              refine l_not rfl rfl rfl ?_
              refine l_not rfl rfl rfl ?_
              refine l_not rfl rfl rfl ?_
              refine l_not rfl rfl rfl ?_
              refine l_val rfl rfl rfl (r_pick rfl rfl) ?_
              refine l_val rfl rfl rfl (r_assign rfl) ?_
              refine l_nil ?_
              refine c_ret ?_
              exact ⟨ret_bool rfl (by simp only [mayB, kindB, hr45, hr48, hr57, hr73, hr85, hr91, Bool.true_and, Bool.and_true, Bool.false_and, Bool.and_false, Bool.true_or, Bool.or_true, Bool.false_or, Bool.or_false, Bool.not_true, Bool.not_false, cond_true, cond_false]), hE⟩
          · have hr85 := hb
            replace hb := of_decide_eq_false hb
            refine l_not rfl rfl rfl ?_
            refine l_not rfl rfl rfl ?_
            refine l_not rfl rfl rfl ?_
            refine l_not rfl rfl rfl ?_
            refine l_val rfl rfl rfl (r_pick rfl rfl) ?_
            refine l_val rfl rfl rfl (r_move rfl) ?_
            refine l_not rfl rfl rfl ?_
            refine l_val rfl rfl rfl (r_pick rfl rfl) ?_
            refine l_val rfl rfl rfl (r_move rfl) ?_
            refine l_not rfl rfl rfl ?_
            refine l_not rfl rfl rfl ?_
            refine l_not rfl rfl rfl ?_
            refine l_not rfl rfl rfl ?_
            refine l_val rfl rfl rfl (r_pick rfl rfl) ?_
            refine l_val rfl rfl rfl (r_assign rfl) ?_
            refine l_nil ?_
            refine c_ret ?_
            exact ⟨ret_bool rfl (by simp only [mayB, kindB, hr45, hr48, hr57, hr73, hr85, Bool.true_and, Bool.and_true, Bool.false_and, Bool.and_false, Bool.true_or, Bool.or_true, Bool.false_or, Bool.or_false, Bool.not_true, Bool.not_false, cond_true, cond_false]), hE⟩
        · have hr73 := hb
          replace hb := of_decide_eq_false hb
          refine c_seq ?_
       
          refine c_ops ?_
          refine l_val rfl rfl rfl (r_eql rfl rfl rfl) ?_
          refine l_val rfl rfl rfl (r_assign rfl) ?_
          refine l_nil ?_
          refine c_cond rfl (fun hb => ?_) (fun hb => ?_)
          · have hr100 := hb
            replace hb := of_decide_eq_true hb
            refine c_seq ?_
         
            refine c_ops ?_
            refine l_new rfl rfl rfl (n_makeMap rfl hL hE) ?_
            rintro _ w ⟨m102, rfl, hm102, hL, hE, hX⟩
            refine l_val rfl rfl rfl (r_assign rfl) ?_
            refine l_nil ?_
            refine c_seq ?_
            refine c_seq ?_
         
            refine c_ops ?_
            refine l_val rfl rfl rfl (r_fieldAddr (n := 0) rfl Tryz.underlying46 rfl Tryz.sizeOf26 rfl) ?_
            refine l_val rfl rfl rfl (r_load_blk rfl Tryz.isAgg26 rfl (hL.get 1 rfl) rfl) ?_
            refine l_val rfl rfl rfl (r_len rfl Tryz.underlying26 rfl) ?_
            refine l_val rfl rfl rfl (r_move rfl) ?_
            refine l_nil ?_
            refine c_block ?_
         
            refine c_loop [4, 9, 106, 107, 108, 109, 110, 111, 112, 113, 114, 115, 116, 117, 118, 119, 120] (fun m e w => ∃ (k : Nat) (had : List (Int × Int)), k ≤ x.l.length ∧ m = x.l.length - k ∧ e 106 = .int .i64 k ∧ Had x.l k had ∧ (∀ j, j < k → ¬ (gat g (iat x.l j)).kind = 8) ∧ Has w [.blk m102 (mapObj (Value.int .i64) (Value.int .i64) had), .blk b3 (.cells (nodeCells x Ak ck Al cl).toArray 46 (0, 0)), .blk b2 (.cells #[.slice Ag g.length cg] 22 (0, 0))] ∧ Ext0 w0 w) x.l.length ?_ ?_
            · exact ⟨0, [], Nat.zero_le _, rfl, rfl, Had.zero _, fun j h => absurd h (Nat.not_lt_zero _), hL, hE⟩
            intro m e w hI
            obtain ⟨k, had, hk, hm, h106, hhad, hall, hL, hE⟩ := hI
            refine c_know h106 ?_
            refine c_seq ?_
         
            refine c_ops ?_
            refine l_val rfl rfl rfl (r_lss rfl rfl rfl) ?_
            refine l_nil ?_
            refine c_seq ?_
            refine c_cond rfl (fun hb => ?_) (fun hb => ?_)
            · have hr107 := hb
              replace hb := of_decide_eq_true hb
              have hkn : k < x.l.length := by omega
              have hxk : x.l[k]? = some (iat x.l k) := by unfold iat; rw [List.getD_eq_getElem?_getD, Int.toNat_natCast, List.getElem?_eq_getElem hkn]; rfl
              have hbnd : 0 ≤ iat x.l k ∧ iat x.l k < g.length := outB_no (any_false (odd_l hr45) (List.mem_of_getElem? hxk))
              refine c_skip ?_
              refine c_seq ?_
              refine c_block ?_
              refine c_seq ?_
           
              refine c_ops ?_
              refine l_val rfl rfl rfl (r_indexAddr_sl rfl Tryz.underlying26 Tryz.sizeOf3 rfl hls.is rfl (by omega) (by omega)) ?_
              refine l_val rfl rfl rfl (r_load rfl Tryz.isAgg3 rfl ((hls.keep RInt.kept (Ext0.cells hE)).int k (by omega) (by omega))) ?_
              refine l_val rfl rfl rfl (r_assign rfl) ?_
              refine l_nil ?_
              refine c_seq ?_
           
              refine c_ops ?_
              refine l_val rfl rfl rfl (r_move rfl) ?_
              refine l_val rfl rfl rfl (r_move rfl) ?_
              refine l_val rfl rfl rfl (r_lookup_int (k := iat x.l k) rfl Tryz.underlying76 (KeyLaw.int Tryz.underlying3) Tryz.zeroValue3 rfl rfl (hL.get 0 rfl)) ?_
              refine l_val rfl rfl rfl (r_add rfl rfl rfl) ?_
              refine l_new_do rfl rfl (r_mapUpdate (k := iat x.l k) (v := IntKind.i64.wrap ((getM had (iat x.l k)).getD 0 + 1)) 0 rfl Tryz.underlying76 (KeyLaw.int Tryz.underlying3) rfl rfl rfl hL hE rfl (fun h => absurd h (Nat.not_lt.2 hm102))) ?_
              rintro w ⟨hL, hE, hz, hk⟩
              refine l_nil ?_
              refine c_seq ?_
           
              refine c_ops ?_
              refine l_val rfl rfl rfl (r_load_blk rfl Tryz.isAgg22 rfl (hL.get 2 rfl) rfl) ?_
              refine l_val rfl rfl rfl (r_move rfl) ?_
              obtain ⟨Ak1, ck1, Al1, cl1, hcell, _, _⟩ := (hg.keep RNode.kept (Ext0.cells hE)).node (iat x.l k) hbnd.1 hbnd.2
              refine l_val rfl rfl rfl (r_indexAddr_sl rfl Tryz.underlying22 Tryz.sizeOf46 rfl hg.is rfl hbnd.1 hbnd.2) ?_
              refine l_val rfl rfl rfl (r_fieldAddr (n := 0) rfl Tryz.underlying46 rfl Tryz.sizeOf3 rfl) ?_
              refine l_val rfl rfl rfl (r_load rfl Tryz.isAgg3 rfl (hcell 0 _ rfl)) ?_
              refine l_val rfl rfl rfl (r_eql rfl rfl rfl) ?_
              refine l_nil ?_
              refine c_cond rfl (fun hb => ?_) (fun hb => ?_)
              · have hr119 := hb
                replace hb := of_decide_eq_true hb
                have hno : (x.l.all fun k => !decide ((gat g k).kind = 8)) = false := by
                  rw [List.all_eq_false]
                  exact ⟨_, List.mem_of_getElem? hxk, by simpa using hb⟩
                refine c_seq ?_
             
                refine c_ops ?_
                refine l_val rfl rfl rfl (r_assign rfl) ?_
                refine l_nil ?_
                refine c_ret ?_
                exact ⟨ret_bool rfl (by simp only [mayB, kindB, hr45, hr48, hr57, hr73, hr100, hr107, hr119, hno, Bool.true_and, Bool.and_true, Bool.false_and, Bool.and_false, Bool.true_or, Bool.or_true, Bool.false_or, Bool.or_false, Bool.not_true, Bool.not_false, cond_true, cond_false]), hE⟩
              · have hr119 := hb
                replace hb := of_decide_eq_false hb
                have hall2 : ∀ j, j < k + 1 → ¬ (gat g (iat x.l j)).kind = 8 := fun j hj => by
                  rcases Nat.lt_or_eq_of_le (Nat.le_of_lt_succ hj) with h | rfl
                  · exact hall j h
                  · exact hb
                refine c_skip ?_
             
                refine c_ops ?_
                refine l_val rfl rfl rfl (r_add rfl rfl rfl) ?_
                refine l_val rfl rfl rfl (r_move rfl) ?_
                refine l_nil ?_
                refine ⟨by repeat (first | exact Agree.over _ _ _ | exact Agree.refl _ _ | (refine Agree.puto ?_ _ _ rfl) | (refine Agree.put ?_ _ _ rfl) | (refine Agree.sub ?_ rfl)), ?_⟩
                exact ⟨x.l.length - (k + 1), by omega, k + 1, hadM had (iat x.l k), by omega, rfl, by show Value.int .i64 (IntKind.i64.wrap ((k : Int) + 1)) = _; rw [wrap_succ hkn hls.max], hhad.succ hxk, hall2, hL, hE⟩
            · have hr107 := hb
              replace hb := of_decide_eq_false hb
              have hkn : k = x.l.length := by omega
              subst hkn
              have hdif : decide ((had.length : Int) = x.l.length) = diffB x.l := by
                have := hhad.dup
                rw [List.take_length] at this
                unfold diffB
                exact decide_eq_decide.2 (by rw [this]; omega)
              have hyes : (x.l.all fun k => !decide ((gat g k).kind = 8)) = true := by
                rw [List.all_eq_true]
                intro y hy
                obtain ⟨j, hj⟩ := List.mem_iff_getElem?.1 hy
                have h1 := hall j (List.getElem?_eq_some_iff.1 hj).1
                rw [iat, List.getD_eq_getElem?_getD, Int.toNat_natCast, hj] at h1
                simpa using h1
              refine c_exit ?_
              refine c_seq ?_
           
              refine c_ops ?_
              refine l_val rfl rfl rfl (r_fieldAddr (n := 0) rfl Tryz.underlying46 rfl Tryz.sizeOf26 rfl) ?_
              refine l_val rfl rfl rfl (r_load_blk rfl Tryz.isAgg26 rfl (hL.get 1 rfl) rfl) ?_
              refine l_val rfl rfl rfl (r_len rfl Tryz.underlying26 rfl) ?_
              refine l_val rfl rfl rfl (r_geq rfl rfl rfl) ?_
              refine l_val rfl rfl rfl (r_move rfl) ?_
              refine l_case 125 rfl (fun hb => ?_) (fun hb => ?_)
              · have hr125 := hb
                replace hb := of_decide_eq_true hb
                refine l_val rfl rfl rfl (r_move rfl) ?_
                refine l_val rfl rfl rfl (r_len_map rfl Tryz.underlying76 rfl (hL.get 0 rfl)) ?_
                refine l_val rfl rfl rfl (r_fieldAddr (n := 0) rfl Tryz.underlying46 rfl Tryz.sizeOf26 rfl) ?_
                refine l_val rfl rfl rfl (r_load_blk rfl Tryz.isAgg26 rfl (hL.get 1 rfl) rfl) ?_
                refine l_val rfl rfl rfl (r_len rfl Tryz.underlying26 rfl) ?_
                refine l_val rfl rfl rfl (r_eql rfl rfl rfl) ?_
                refine l_val rfl rfl rfl (r_pick rfl rfl) ?_
                refine l_val rfl rfl rfl (r_assign rfl) ?_
                refine l_nil ?_
                refine c_ret ?_
                exact ⟨ret_bool rfl (by simp only [mayB, kindB, hr45, hr48, hr57, hr73, hr100, hr107, hdif, hyes, hr125, Bool.true_and, Bool.and_true, Bool.false_and, Bool.and_false, Bool.true_or, Bool.or_true, Bool.false_or, Bool.or_false, Bool.not_true, Bool.not_false, cond_true, cond_false]), hE⟩
              · have hr125 := hb
                replace hb := of_decide_eq_false hb
                refine l_not rfl rfl rfl ?_
                refine l_not rfl rfl rfl ?_
                refine l_not rfl rfl rfl ?_
                refine l_not rfl rfl rfl ?_
                refine l_not rfl rfl rfl ?_
                refine l_not rfl rfl rfl ?_
                refine l_val rfl rfl rfl (r_pick rfl rfl) ?_
                refine l_val rfl rfl rfl (r_assign rfl) ?_
                refine l_nil ?_
                refine c_ret ?_
                exact ⟨ret_bool rfl (by simp only [mayB, kindB, hr45, hr48, hr57, hr73, hr100, hr107, hdif, hyes, hr125, Bool.true_and, Bool.and_true, Bool.false_and, Bool.and_false, Bool.true_or, Bool.or_true, Bool.false_or, Bool.or_false, Bool.not_true, Bool.not_false, cond_true, cond_false]), hE⟩
          · have hr100 := hb
            replace hb := of_decide_eq_false hb
            refine c_seq ?_
         
            refine c_ops ?_
            refine l_val rfl rfl rfl (r_eql rfl rfl rfl) ?_
            refine l_val rfl rfl rfl (r_assign rfl) ?_
            refine l_nil ?_
            refine c_cond rfl (fun hb => ?_) (fun hb => ?_)
            · have hr133 := hb
              replace hb := of_decide_eq_true hb
              refine c_seq ?_
           
              refine c_ops ?_
              refine l_val rfl rfl rfl (r_fieldAddr (n := 0) rfl Tryz.underlying46 rfl Tryz.sizeOf3 rfl) ?_
              refine l_val rfl rfl rfl (r_load_blk rfl Tryz.isAgg3 rfl (hL.get 0 rfl) rfl) ?_
              refine l_val rfl rfl rfl (r_geq rfl rfl rfl) ?_
              refine l_val rfl rfl rfl (r_move rfl) ?_
              refine l_case 138 rfl (fun hb => ?_) (fun hb => ?_)
              · have hr138 := hb
                replace hb := of_decide_eq_true hb
                refine l_val rfl rfl rfl (r_fieldAddr (n := 0) rfl Tryz.underlying46 rfl Tryz.sizeOf3 rfl) ?_
                refine l_val rfl rfl rfl (r_load_blk rfl Tryz.isAgg3 rfl (hL.get 0 rfl) rfl) ?_
                refine l_val rfl rfl rfl (r_lss rfl rfl rfl) ?_
                refine l_val rfl rfl rfl (r_pick rfl rfl) ?_
                refine l_val rfl rfl rfl (r_move rfl) ?_
                refine l_case 143 rfl (fun hb => ?_) (fun hb => ?_)
                · have hr143 := hb
                  replace hb := of_decide_eq_true hb
                  refine l_val rfl rfl rfl (r_fieldAddr (n := 0) rfl Tryz.underlying46 rfl Tryz.sizeOf26 rfl) ?_
                  refine l_val rfl rfl rfl (r_load_blk rfl Tryz.isAgg26 rfl (hL.get 0 rfl) rfl) ?_
                  refine l_val rfl rfl rfl (r_len rfl Tryz.underlying26 rfl) ?_
                  refine l_val rfl rfl rfl (r_eql rfl rfl rfl) ?_
                  refine l_val rfl rfl rfl (r_pick rfl rfl) ?_
                  refine l_val rfl rfl rfl (r_assign rfl) ?_
                  refine l_nil ?_
                  refine c_ret ?_
                  exact ⟨ret_bool rfl (by simp only [mayB, kindB, hr45, hr48, hr57, hr73, hr100, hr133, hr138, hr143, Bool.true_and, Bool.and_true, Bool.false_and, Bool.and_false, Bool.true_or, Bool.or_true, Bool.false_or, Bool.or_false, Bool.not_true, Bool.not_false, cond_true, cond_false]), hE⟩
                · have hr143 := hb
                  replace hb := of_decide_eq_false hb
                  refine l_not rfl rfl rfl ?_
                  refine l_not rfl rfl rfl ?_
                  refine l_not rfl rfl rfl ?_
                  refine l_not rfl rfl rfl ?_
                  refine l_val rfl rfl rfl (r_pick rfl rfl) ?_
                  refine l_val rfl rfl rfl (r_assign rfl) ?_
                  refine l_nil ?_
                  refine c_ret ?_
                  exact ⟨ret_bool rfl (by simp only [mayB, kindB, hr45, hr48, hr57, hr73, hr100, hr133, hr138, hr143, Bool.true_and, Bool.and_true, Bool.false_and, Bool.and_false, Bool.true_or, Bool.or_true, Bool.false_or, Bool.or_false, Bool.not_true, Bool.not_false, cond_true, cond_false]), hE⟩
              · have hr138 := hb
                replace hb := of_decide_eq_false hb
                refine l_not rfl rfl rfl ?_
                refine l_not rfl rfl rfl ?_
                refine l_not rfl rfl rfl ?_
                refine l_val rfl rfl rfl (r_pick rfl rfl) ?_
                refine l_val rfl rfl rfl (r_move rfl) ?_
                refine l_not rfl rfl rfl ?_
                refine l_not rfl rfl rfl ?_
                refine l_not rfl rfl rfl ?_
                refine l_not rfl rfl rfl ?_
                refine l_val rfl rfl rfl (r_pick rfl rfl) ?_
                refine l_val rfl rfl rfl (r_assign rfl) ?_
                refine l_nil ?_
                refine c_ret ?_
                exact ⟨ret_bool rfl (by simp only [mayB, kindB, hr45, hr48, hr57, hr73, hr100, hr133, hr138, Bool.true_and, Bool.and_true, Bool.false_and, Bool.and_false, Bool.true_or, Bool.or_true, Bool.false_or, Bool.or_false, Bool.not_true, Bool.not_false, cond_true, cond_false]), hE⟩
            · have hr133 := hb
              replace hb := of_decide_eq_false hb
              refine c_skip ?_
              refine c_seq ?_
           
              refine c_ops ?_
              refine l_val rfl rfl rfl (r_assign rfl) ?_
              refine l_nil ?_
              refine c_ret ?_
              exact ⟨ret_bool rfl (by simp only [mayB, kindB, hr45, hr48, hr57, hr73, hr100, hr133, Bool.true_and, Bool.and_true, Bool.false_and, Bool.and_false, Bool.true_or, Bool.or_true, Bool.false_or, Bool.or_false, Bool.not_true, Bool.not_false, cond_true, cond_false]), hE⟩
end Go.Proofs.YtndophlnapjkhaaGreatDoor.Vc
namespace Go.Proofs.YtndophlnapjkhaaGreatDoor.Vc
open Go Go.RowKit
theorem flat_get {sz : Nat} : ∀ {css : List (List Value)} (_ : ∀ cs ∈ css, cs.length = sz) (i j : Nat) (cs : List Value), css[i]? = some cs → j < sz → css.flatten[i * sz + j]? = cs[j]?
  | [], _, i, j, cs, hi, _ => by simp at hi
  | c :: r, h, 0, j, cs, hi, hj => by
    have : c = cs := by simpa using hi
    subst this
    have hl := h c List.mem_cons_self
    rw [List.flatten_cons, Nat.zero_mul, Nat.zero_add, List.getElem?_append_left (by omega)]
  | c :: r, h, i + 1, j, cs, hi, hj => by
    have hl := h c List.mem_cons_self
    rw [List.flatten_cons, List.getElem?_append_right (by rw [hl, Nat.add_mul]; omega), hl]
    rw [show (i + 1) * sz + j - sz = i * sz + j by rw [Nat.add_mul]; omega]
    exact flat_get (fun cs hcs => h cs (List.mem_cons_of_mem _ hcs)) i j cs (by simpa using hi) hj
structure Els {α : Type} (w : World) (sz : Nat) (R : World → α → List Value → Prop) (l : List α) (css : List (List Value)) : Prop where
  many : css.length = l.length
  each : ∀ (i : Nat) x cs, l[i]? = some x → css[i]? = some cs → cs.length = sz ∧ R w x cs
theorem Els.nil {α : Type} (w : World) (sz : Nat) (R : World → α → List Value → Prop) : Els w sz R ([] : List α) [] := ⟨rfl, fun i x cs h => by simp at h⟩
theorem Els.all {α : Type} {w : World} {sz : Nat} {R : World → α → List Value → Prop} {l : List α} {css : List (List Value)} (h : Els w sz R l css) : ∀ cs ∈ css, cs.length = sz := by
  intro cs hcs
  obtain ⟨i, hi⟩ := List.mem_iff_getElem?.1 hcs
  have hl : i < l.length := by rw [← h.many]; exact (List.getElem?_eq_some_iff.1 hi).1
  exact (h.each i _ cs (List.getElem?_eq_getElem hl) hi).1
theorem Els.keep {α : Type} {w W : World} {sz : Nat} {R : World → α → List Value → Prop} {l : List α} {css : List (List Value)} (hR : Kept R) (h : Els w sz R l css) (hc : Cells w W) : Els W sz R l css := ⟨h.many, fun i x cs h1 h2 => let ⟨h3, h4⟩ := h.each i x cs h1 h2; ⟨h3, hR _ _ _ _ hc h4⟩⟩
theorem Els.snoc {α : Type} {w : World} {sz : Nat} {R : World → α → List Value → Prop} {l : List α} {css : List (List Value)} (h : Els w sz R l css) {x : α} {cs : List Value} (hl : cs.length = sz) (hx : R w x cs) : Els w sz R (l ++ [x]) (css ++ [cs]) := by
  refine ⟨by simp [h.many], fun i y ds h1 h2 => ?_⟩
  have hm := h.many
  rcases Nat.lt_or_ge i l.length with hi | hi
  · rw [List.getElem?_append_left hi] at h1
    rw [List.getElem?_append_left (by omega)] at h2
    exact h.each i y ds h1 h2
  · rw [List.getElem?_append_right hi] at h1
    rw [List.getElem?_append_right (by omega), hm] at h2
    match hk : i - l.length, h1, h2 with
    | 0, h1, h2 =>
      cases h1; cases h2
      exact ⟨hl, hx⟩
    | k + 1, h1, h2 => simp at h1
theorem Els.ints (w : World) (l : List Int) : Els w 1 RInt l (l.map fun x => [Value.int .i64 x]) := by
  refine ⟨by simp, fun i x cs h1 h2 => ?_⟩
  rw [List.getElem?_map, h1] at h2
  cases h2
  exact ⟨rfl, rfl⟩
theorem Els.strs (w : World) (l : List ByteArray) : Els w 1 RStr l (l.map fun x => [Value.string x]) := by
  refine ⟨by simp, fun i x cs h1 h2 => ?_⟩
  rw [List.getElem?_map, h1] at h2
  cases h2
  exact ⟨rfl, rfl⟩
theorem flat_ints (l : List Int) : (l.map fun x => [Value.int .i64 x]).flatten = l.map (Value.int .i64) := by
  induction l with
  | nil => rfl
  | cons x r ih => simp [ih]
theorem Sl.ofRow {α : Type} {w : World} {base e sz n : Nat} {v : Value} {R : World → α → List Value → Prop} {l : List α} {css : List (List Value)} (h : w.ownsRow base e sz v n css.flatten) (hE : Els w sz R l css) (hn : l.length = n) :
    ∃ A c, v = .slice A n c ∧ Sl w sz R A n c l ∧ ∀ a, A = some a → base ≤ a.block := by
  rcases h.2 with ⟨rfl, rfl⟩ | ⟨g, cap, cur, rfl, hg, hh, hcap, hmax, hsz, htake⟩
  · have : l = [] := List.eq_nil_of_length_eq_zero hn
    subst this
    exact ⟨none, 0, rfl, Sl.nil w sz R none 0, fun a h => by cases h⟩
  · refine ⟨_, cap, rfl, ⟨hn, hcap, by simp only [maxLen] at hmax; omega, fun _ => rfl, fun i x hi => ?_⟩, fun a h => by cases h; exact hg⟩
    have hil : i < css.length := by rw [hE.many]; exact (List.getElem?_eq_some_iff.1 hi).1
    obtain ⟨h1, h2⟩ := hE.each i x _ hi (List.getElem?_eq_getElem hil)
    refine ⟨_, h1, h2, fun j u hj => ?_⟩
    have hjl : j < sz := by rw [← h1]; exact (List.getElem?_eq_some_iff.1 hj).1
    have hf := flat_get hE.all i j _ (List.getElem?_eq_getElem hil) hjl
    rw [hj, ← htake, List.getElem?_take] at hf
    split at hf
    · rw [show (adr (some (⟨g, 0, none⟩ : Addr))) = ⟨g, 0, none⟩ from rfl, blk_add, blk_cell hh, Nat.zero_add]
      simpa using hf
    · cases hf
theorem Sl.ofInts {w : World} {base e n : Nat} {v : Value} {l : List Int} (h : w.ownsRow base e 1 v n (l.map (Value.int .i64))) : ∃ A c, v = .slice A n c ∧ Sl w 1 RInt A n c l ∧ ∀ a, A = some a → base ≤ a.block := by
  have hn : l.length = n := by have := h.1; simpa using this
  rw [← flat_ints] at h
  exact Sl.ofRow h (Els.ints w l) hn
end Go.Proofs.YtndophlnapjkhaaGreatDoor.Vc
namespace Go.Proofs.YtndophlnapjkhaaGreatDoor.Vc
open Go Go.RowKit
set_option linter.unusedVariables false
set_option linter.unusedSimpArgs false
structure Fits (g : List GNode) : Prop where
  texts : ∀ x ∈ g, FitsN x
  lists : ∀ x ∈ g, x.l.length ≤ 1000000000000
def checkG (g : List GNode) : Int := if 2000 < (g.length : Int) then 5 else if g.all (mayB g) then 0 else 2
def membersG (g : List GNode) (n : Int) : List Int := if n < 0 ∨ (g.length : Int) ≤ n then [] else if (gat g n).kind = 8 then (gat g n).l else [n]
theorem gat_nat {g : List GNode} {k : Nat} (h : k < g.length) : g[k]? = some (gat g k) := by
  unfold gat
  rw [Int.toNat_natCast, List.getD_eq_getElem?_getD, List.getElem?_eq_getElem h]
  rfl
theorem gat_mem {g : List GNode} {k : Nat} (h : k < g.length) : gat g k ∈ g := List.mem_of_getElem? (gat_nat h)
theorem gat_mem' {g : List GNode} {n : Int} (h0 : 0 ≤ n) (h : n < g.length) : gat g n ∈ g := by
  have := gat_mem (g := g) (k := n.toNat) (by omega)
  rwa [Int.toNat_of_nonneg h0] at this
theorem all_no {g : List GNode} {p : GNode → Bool} {k : Nat} (h : k < g.length) (hp : p (gat g k) = false) : g.all p = false := by
  rw [List.all_eq_false]
  exact ⟨_, gat_mem h, by rw [hp]; simp⟩
theorem all_yes {g : List GNode} {p : GNode → Bool} (h : ∀ j : Nat, j < g.length → p (gat g j) = true) : g.all p = true := by
  rw [List.all_eq_true]
  intro x hx
  obtain ⟨j, hj⟩ := List.mem_iff_getElem?.1 hx
  have hl := (List.getElem?_eq_some_iff.1 hj).1
  have := h j hl
  rw [gat_nat hl] at hj
  cases hj
  exact this
theorem Sl.raw_int {w : World} {a : Addr} {n c : Nat} {l : List Int} (h : Sl w 1 RInt (some a) n c l) (j : Nat) (u : Value) (hj : (l.map (Value.int .i64))[j]? = some u) : w.cell? (a.add j) = some u := by
  rw [List.getElem?_map, Option.map_eq_some_iff] at hj
  obtain ⟨x, hx, rfl⟩ := hj
  obtain ⟨cs, _, h2, h3⟩ := h.at_ j x hx
  rw [h2] at h3
  have := h3 0 _ rfl
  rw [Nat.mul_one, Nat.add_zero] at this
  exact this
theorem Check_calls (w0 : World) (Ag : Option Addr) (cg : Nat) (g : List GNode) (hg : Nodes w0 Ag cg g) (hfit : Fits g) (hk0 : KeysLaid w0) :
    Calls Tryz.prog 26 [.slice Ag g.length cg].toArray w0 fun en w' => en = .returned (.int .i64 (checkG g)) ∧ Ext0 w0 w' := by
  have hE : Ext0 w0 w0 := Ext.refl _ _
  have hL : Has w0 [] := trivial
  have hsome := hg.is
  refine calls [2] Tryz.func26 rfl rfl rfl rfl ?_
  refine c_seq ?_
  refine c_ops ?_
  refine l_val rfl rfl rfl (r_assign rfl) ?_
  refine l_nil ?_
  refine c_seq ?_
  refine c_seq ?_
  refine c_ops ?_
  refine l_val rfl rfl rfl (r_move rfl) ?_
  refine l_val rfl rfl rfl (r_len rfl Tryz.underlying22 rfl) ?_
  refine l_val rfl rfl rfl (r_gtr rfl rfl rfl) ?_
  refine l_nil ?_
  refine c_cond rfl (fun hb => ?_) (fun hb => ?_)
  · have hr7 := hb
    replace hb := of_decide_eq_true hb
    refine c_seq ?_
 
    refine c_ops ?_
    refine l_val rfl rfl rfl (r_assign rfl) ?_
    refine l_nil ?_
    refine c_ret ?_
    exact ⟨ret_int rfl (by unfold checkG; rw [if_pos hb]), hE⟩
  · have hr7 := hb
    replace hb := of_decide_eq_false hb
    have h2000 : ¬ 2000 < (g.length : Int) := hb
    refine c_skip ?_
    refine c_seq ?_
    refine c_seq ?_
 
    refine c_ops ?_
    refine l_val rfl rfl rfl (r_move rfl) ?_
    refine l_val rfl rfl rfl (r_len rfl Tryz.underlying22 rfl) ?_
    refine l_val rfl rfl rfl (r_move rfl) ?_
    refine l_nil ?_
    refine c_block ?_
 
    refine c_loop [2, 4, 10, 11, 12, 13, 14, 15, 16, 17, 18] (fun m e w => ∃ k : Nat, k ≤ g.length ∧ m = g.length - k ∧ e 10 = .int .i64 k ∧ (∀ j : Nat, j < k → mayB g (gat g j) = true) ∧ Ext0 w0 w) g.length ?_ ?_
    · exact ⟨0, Nat.zero_le _, rfl, rfl, fun j h => absurd h (Nat.not_lt_zero _), hE⟩
    intro m e w hI
    obtain ⟨k, hk, hm, h10, hall, hE⟩ := hI
    refine c_know h10 ?_
    have hL : Has w [] := trivial
    refine c_seq ?_
 
    refine c_ops ?_
    refine l_val rfl rfl rfl (r_lss rfl rfl rfl) ?_
    refine l_nil ?_
    refine c_seq ?_
    refine c_cond rfl (fun hb => ?_) (fun hb => ?_)
    · have hr11 := hb
      replace hb := of_decide_eq_true hb
      have hkn : k < g.length := by omega
      refine c_skip ?_
      refine c_seq ?_
      refine c_block ?_
      refine c_seq ?_
   
      refine c_ops ?_
      refine l_val rfl rfl rfl (r_indexAddr_sl rfl Tryz.underlying22 Tryz.sizeOf46 rfl hsome rfl (by omega) (by omega)) ?_
      obtain ⟨Ak, ck, Al, cl, hcell, hks, hls⟩ := hg.node k (by omega) (by omega)
      refine l_val rfl rfl rfl (r_load_agg (vs := nodeCells (gat g k) Ak ck Al cl) rfl Tryz.isAgg46 Tryz.sizeOf46 rfl (fun j v hj => Ext0.cells hE _ _ (hcell j v hj))) ?_
      refine l_new rfl rfl rfl (n_alloc rfl Tryz.zeroValue46 hL hE) ?_
      rintro _ w ⟨b4, rfl, hb4, hL, hE, hX⟩
      refine l_new_do rfl rfl (r_store 0 rfl Tryz.sizeOf46 rfl hL hE rfl rfl rfl rfl (fun h => absurd h (Nat.not_lt.2 hb4))) ?_
      rintro w ⟨hL, hE, hz, hk⟩
      refine l_nil ?_
      refine c_seq ?_
   
      refine c_ops ?_
      refine l_val rfl rfl rfl (r_move rfl) ?_
      refine l_val rfl rfl rfl (r_load_blk_agg rfl Tryz.isAgg46 Tryz.sizeOf46 rfl (hL.get 0 rfl) rfl) ?_
      refine l_by rfl rfl rfl (r_call rfl rfl Tryz.func50 rfl rfl) (may_calls w Ag cg g (hg.keep RNode.kept (Ext0.cells hE)) (gat g k) Ak ck Al cl (hks.keep RStr.kept (Ext0.cells hE)) (hls.keep RInt.kept (Ext0.cells hE)) (hfit.texts _ (gat_mem hkn)) (hk0.keep (Ext0.cells hE))) ?_
      rintro _ w ⟨rfl, hX⟩
      replace hL := hL.ext0 hX
      replace hE := hE.step0 hX
      refine ⟨_, rfl, ?_⟩
      refine l_val rfl rfl rfl (r_not rfl rfl) ?_
      refine l_nil ?_
      refine c_cond rfl (fun hb => ?_) (fun hb => ?_)
      · have hr17 := hb
        refine c_seq ?_
     
        refine c_ops ?_
        refine l_val rfl rfl rfl (r_assign rfl) ?_
        refine l_nil ?_
        refine c_ret ?_
        exact ⟨ret_int rfl (by unfold checkG; rw [if_neg h2000, all_no hkn (by simpa using hb)]; rfl), hE⟩
      · have hr17 := hb
        refine c_skip ?_
     
        refine c_ops ?_
        refine l_val rfl rfl rfl (r_add rfl rfl rfl) ?_
        refine l_val rfl rfl rfl (r_move rfl) ?_
        refine l_nil ?_
        refine ⟨by repeat (first | exact Agree.over _ _ _ | exact Agree.refl _ _ | (refine Agree.puto ?_ _ _ rfl) | (refine Agree.put ?_ _ _ rfl) | (refine Agree.sub ?_ rfl)), ?_⟩
        exact ⟨g.length - (k + 1), by omega, k + 1, by omega, rfl, by show Value.int .i64 (IntKind.i64.wrap ((k : Int) + 1)) = _; rw [wrap_succ hkn hg.max], fun j hj => by rcases Nat.lt_or_eq_of_le (Nat.le_of_lt_succ hj) with h | rfl <;> first | exact hall j h | simpa using hb, hE⟩
    · have hr11 := hb
      replace hb := of_decide_eq_false hb
      have hkn : g.length ≤ k := by omega
      refine c_exit ?_
      refine c_seq ?_
   
      refine c_ops ?_
      refine l_val rfl rfl rfl (r_assign rfl) ?_
      refine l_nil ?_
      refine c_ret ?_
      exact ⟨ret_int rfl (by unfold checkG; rw [if_neg h2000, all_yes (fun j hj => hall j (by omega))]; rfl), hE⟩
theorem Clone_int (w0 : World) (A : Option Addr) (c : Nat) (l : List Int) (hl : Ints w0 A c l) (hbig : l.length ≤ 1000000000000) :
    Calls Tryz.prog 47 [.slice A l.length c].toArray w0 fun en w' => ∃ v, en = .returned v ∧ w'.ownsRow w0.heap.size 3 1 v l.length (l.map (Value.int .i64)) ∧ Ext0 w0 w' := by
  have hE : Ext0 w0 w0 := Ext.refl _ _
  have hL : Has w0 [] := trivial
  refine calls [2] Tryz.func47 rfl rfl rfl rfl ?_
  refine c_seq ?_
  refine c_ops ?_
  refine l_val rfl rfl rfl (r_assign rfl) ?_
  refine l_nil ?_
  refine c_seq ?_
  refine c_seq ?_
  refine c_ops ?_
  refine l_val rfl rfl rfl (r_move rfl) ?_
  refine l_val rfl rfl rfl (r_eql_nil rfl rfl Tryz.underlying26 rfl) ?_
  refine l_nil ?_
  refine c_cond rfl (fun hb => ?_) (fun hb => ?_)
  · have hr4 := hb
    have h0 : l = [] := by
      cases l with
      | nil => rfl
      | cons x r =>
        have := hl.is (by simp)
        rw [Option.isNone_iff_eq_none.1 hr4] at this
        cases this
    subst h0
    refine c_seq ?_
 
    refine c_ops ?_
    refine l_val rfl rfl rfl (r_assign rfl) ?_
    refine l_nil ?_
    refine c_ret ?_
    exact ⟨_, rfl, ⟨rfl, .inl ⟨rfl, rfl⟩⟩, hE⟩
  · have hr4 := hb
    obtain ⟨a, rfl⟩ : ∃ a, A = some a := by
      cases A with
      | none => cases hr4
      | some a => exact ⟨a, rfl⟩
    have hlw := hl.keep RInt.kept (Ext0.cells hE)
    refine c_skip ?_
    refine c_seq ?_
 
    refine c_ops ?_
    refine l_new rfl rfl rfl (n_slice0 rfl Tryz.underlying26 Tryz.sizeOf3 hL hE) ?_
    rintro _ w ⟨s5, rfl, hs5, hL, hE, hX⟩
    refine l_val rfl rfl rfl (r_move rfl) ?_
    refine l_new rfl rfl rfl (r_append (ys := l.map (Value.int .i64)) 0 rfl Tryz.underlying26 info_int rfl (by decide) rfl rfl hL hE rfl (by simp) (fun j u hj => (hlw.keep RInt.kept (Ext0.cells hX)).raw_int j u hj) (fun u hu => by obtain ⟨x, _, rfl⟩ := List.mem_map.1 hu; rfl) (by omega) (by omega) (Nat.le_refl _) hE.size) ?_
    rintro _ w ⟨hL, hE, hk⟩
    refine l_val rfl rfl rfl (r_assign rfl) ?_
    refine l_nil ?_
    refine c_ret ?_
    exact ⟨_, rfl, by have := hL.row 0 rfl; rwa [Nat.zero_add] at this, hE⟩
theorem Members_calls (w0 : World) (Ag : Option Addr) (cg : Nat) (g : List GNode) (hg : Nodes w0 Ag cg g) (hfit : Fits g) (n : Int) :
    Calls Tryz.prog 43 [.slice Ag g.length cg, .int .i64 n].toArray w0 fun en w' => ∃ v, en = .returned v ∧ w'.ownsRow w0.heap.size 3 1 v (membersG g n).length ((membersG g n).map (Value.int .i64)) ∧ Ext0 w0 w' := by
  have hE : Ext0 w0 w0 := Ext.refl _ _
  have hL : Has w0 [] := trivial
  have hsome := hg.is
  refine calls [4] Tryz.func43 rfl rfl rfl rfl ?_
  refine c_seq ?_
  refine c_ops ?_
  refine l_val rfl rfl rfl (r_assign rfl) ?_
  refine l_nil ?_
  refine c_seq ?_
  refine c_block ?_
  refine c_merge [5, 6, 7, 8, 9, 10, 11] (fun e w => e 5 = .bool (decide (n < 0) || decide ((g.length : Int) ≤ n)) ∧ w = w0) ?_ ?_
  · refine c_seq ?_
 
    refine c_ops ?_
    refine l_val rfl rfl rfl (r_move rfl) ?_
    refine l_val rfl rfl rfl (r_lss rfl rfl rfl) ?_
    refine l_val rfl rfl rfl (r_assign rfl) ?_
    refine l_nil ?_
    refine c_cond rfl (fun hb => ?_) (fun hb => ?_)
    · have hr5 := hb
      replace hb := of_decide_eq_true hb
      refine c_skip ?_
      refine ⟨by repeat (first | exact Agree.over _ _ _ | exact Agree.refl _ _ | (refine Agree.puto ?_ _ _ rfl) | (refine Agree.put ?_ _ _ rfl) | (refine Agree.sub ?_ rfl)), ?_⟩
      exact ⟨congrArg Value.bool (by simp only [hr5, Bool.true_and, Bool.and_true, Bool.false_and, Bool.and_false, Bool.true_or, Bool.or_true, Bool.false_or, Bool.or_false, Bool.not_true, Bool.not_false, cond_true, cond_false]), rfl⟩
    · have hr5 := hb
      replace hb := of_decide_eq_false hb
   
      refine c_ops ?_
      refine l_val rfl rfl rfl (r_move rfl) ?_
      refine l_val rfl rfl rfl (r_move rfl) ?_
      refine l_val rfl rfl rfl (r_len rfl Tryz.underlying22 rfl) ?_
      refine l_val rfl rfl rfl (r_geq rfl rfl rfl) ?_
      refine l_val rfl rfl rfl (r_assign rfl) ?_
      refine l_nil ?_
      refine ⟨by repeat (first | exact Agree.over _ _ _ | exact Agree.refl _ _ | (refine Agree.puto ?_ _ _ rfl) | (refine Agree.put ?_ _ _ rfl) | (refine Agree.sub ?_ rfl)), ?_⟩
      exact ⟨congrArg Value.bool (by simp only [hr5, Bool.true_and, Bool.and_true, Bool.false_and, Bool.and_false, Bool.true_or, Bool.or_true, Bool.false_or, Bool.or_false, Bool.not_true, Bool.not_false, cond_true, cond_false]), rfl⟩
  rintro e w hI
  obtain ⟨h5, rfl⟩ := hI
  refine c_know h5 ?_
  refine c_cond rfl (fun hb => ?_) (fun hb => ?_)
  · have hr5 := hb
    have hm : membersG g n = [] := by unfold membersG; rw [if_pos (by simpa using hb)]
    rw [hm]
    refine c_seq ?_
 
    refine c_ops ?_
    refine l_val rfl rfl rfl (r_assign rfl) ?_
    refine l_nil ?_
    refine c_ret ?_
    exact ⟨_, rfl, ⟨rfl, .inl ⟨rfl, rfl⟩⟩, hE⟩
  · have hr5 := hb
    have hn : ¬ (n < 0 ∨ (g.length : Int) ≤ n) := by simpa using hb
    have hm : membersG g n = if (gat g n).kind = 8 then (gat g n).l else [n] := by unfold membersG; rw [if_neg hn]
    obtain ⟨Ak, ck, Al, cl, hcell, hks, hls⟩ := hg.node n (by omega) (by omega)
    have hmem : gat g n ∈ g := gat_mem' (by omega) (by omega)
    refine c_seq ?_
 
    refine c_ops ?_
    refine l_val rfl rfl rfl (r_move rfl) ?_
    refine l_val rfl rfl rfl (r_move rfl) ?_
    refine l_val rfl rfl rfl (r_indexAddr_sl rfl Tryz.underlying22 Tryz.sizeOf46 rfl hsome rfl (by omega) (by omega)) ?_
    refine l_val rfl rfl rfl (r_fieldAddr (n := 0) rfl Tryz.underlying46 rfl Tryz.sizeOf3 rfl) ?_
    refine l_val rfl rfl rfl (r_load rfl Tryz.isAgg3 rfl (hcell 0 _ rfl)) ?_
    refine l_val rfl rfl rfl (r_eql rfl rfl rfl) ?_
    refine l_val rfl rfl rfl (r_assign rfl) ?_
    refine l_nil ?_
    refine c_cond rfl (fun hb => ?_) (fun hb => ?_)
    · have hr12 := hb
      replace hb := of_decide_eq_true hb
      rw [if_pos hb] at hm
      rw [hm]
      refine c_seq ?_
   
      refine c_ops ?_
      refine l_val rfl rfl rfl (r_move rfl) ?_
      refine l_val rfl rfl rfl (r_move rfl) ?_
      refine l_val rfl rfl rfl (r_indexAddr_sl rfl Tryz.underlying22 Tryz.sizeOf46 rfl hsome rfl (by omega) (by omega)) ?_
      refine l_val rfl rfl rfl (r_fieldAddr (n := 0) rfl Tryz.underlying46 rfl Tryz.sizeOf26 rfl) ?_
      refine l_val rfl rfl rfl (r_load rfl Tryz.isAgg26 rfl (hcell 4 _ rfl)) ?_
      refine l_by rfl rfl rfl (r_call rfl rfl Tryz.func47 rfl rfl) (Clone_int _ Al cl _ hls (hfit.lists _ hmem)) ?_
      rintro _ w ⟨v, rfl, hrow, hX⟩
      replace hE := hE.trans hX
      refine ⟨_, rfl, ?_⟩
      refine l_val rfl rfl rfl (r_assign rfl) ?_
      refine l_nil ?_
      refine c_ret ?_
      exact ⟨_, rfl, hrow, hE⟩
    · have hr12 := hb
      replace hb := of_decide_eq_false hb
      rw [if_neg hb] at hm
      rw [hm]
      refine c_skip ?_
      refine c_seq ?_
   
      refine c_ops ?_
      refine l_val rfl rfl rfl (r_move rfl) ?_
      refine l_new rfl rfl rfl (n_slice rfl Tryz.underlying26 Tryz.sizeOf3 Tryz.zeroValue3 rfl rfl rfl hL hE) ?_
      rintro _ w ⟨s26, rfl, hs26, hL, hE, hX⟩
      refine l_val rfl rfl rfl (r_assign rfl) ?_
      refine l_nil ?_
      refine c_ret ?_
      exact ⟨_, rfl, (Has.asRow hL hs26 rfl (by decide)).row 0 rfl, hE⟩
end Go.Proofs.YtndophlnapjkhaaGreatDoor.Vc
namespace Go.Proofs.YtndophlnapjkhaaGreatDoor.Vc
open Go Go.RowKit
theorem Has.frame {S : Nat → Prop} {w w' : World} : ∀ {L1 L2 L2' : List Res}, Has w (L1 ++ L2) → Ext S w w' → Has w' L2' → (∀ k, S k → ∃ r ∈ L2, r.foot = some k) → (∀ r ∈ L2', ∀ b, r.foot = some b → (∃ q ∈ L2, q.foot = some b) ∨ w.heap.size ≤ b) → Has w' (L1 ++ L2')
  | [], _, _, _, _, h2, _, _ => h2
  | r :: L1, L2, L2', h, hE, h2, hS, hf => by
    refine ⟨Res.keep h.1 fun b hb => hE.block b (Res.lt h.1 hb) fun hs => ?_, fun q hq b hb hqb => ?_, Has.frame h.2.2 hE h2 hS hf⟩
    · obtain ⟨q, hq, hqb⟩ := hS b hs
      exact h.2.1 q (List.mem_append_right _ hq) b hb hqb
    · rcases List.mem_append.1 hq with hq | hq
      · exact h.2.1 q (List.mem_append_left _ hq) b hb hqb
      · rcases hf q hq b hqb with ⟨p, hp, hpb⟩ | hlt
        · exact h.2.1 p (List.mem_append_right _ hp) b hb hpb
        · have := Res.lt h.1 hb
          omega
theorem Has.addRow {w w1 : World} {L : List Res} {e sz n : Nat} {v : Value} {xs : List Value} (h : Has w L) (he : Ext0 w w1) (hr : w1.ownsRow w.heap.size e sz v n xs) : Has w1 (.row w.heap.size e sz v n xs :: L) :=
  h.cons he (r := .row w.heap.size e sz v n xs) hr (fun b hb => (ownsRow_lt hr hb).2)
theorem Sl.ints_at {w : World} {base e n n' c : Nat} {A : Option Addr} {l : List Int} (h : w.ownsRow base e 1 (.slice A n' c) n (l.map (Value.int .i64))) : Sl w 1 RInt A n' c l := by
  obtain ⟨A', c', hv, hs, _⟩ := Sl.ofInts h
  injection hv with h1 h2 h3
  subst h1; subst h2; subst h3
  exact hs
theorem Has.right {w : World} : ∀ {L1 L2 : List Res}, Has w (L1 ++ L2) → Has w L2
  | [], _, h => h
  | _ :: _, _, h => Has.right h.2.2
theorem noCells_map {κ ν : Type} [DecidableEq κ] {enc : κ → Value} {venc : ν → Value} {m : List (κ × ν)} {w : World} {b : Nat} (h : w.heap[b]? = some (mapObj enc venc m)) : NoCells (fun k => k = b) w := fun k hk c t f hc => by
  subst hk
  rw [h] at hc
  cases hc
theorem findS_lt {σ α : Type} (p : σ → α → Bool × σ) : ∀ (k : Nat) (s : σ) (l : List α) (i : Nat), (findS p k s l).1 = some i → k ≤ i ∧ i < k + l.length
  | _, _, [], _, h => by simp [findS] at h
  | k, s, x :: r, i, h => by
    rw [findS] at h
    split at h
    · cases h
      simp
    · have := findS_lt p (k + 1) _ r i h
      simp only [List.length_cons]
      omega
theorem idxV_lt {o : Option Nat} {n : Nat} (h : ∀ i, o = some i → i < n) : idxV o < n := by
  cases o with
  | none => simp [idxV]; omega
  | some i => have := h i rfl; simp [idxV]; omega
theorem r_build {P : Program} {w : World} {ρ : Operand → Value} {o : Oper} {t : TypeId} {ps : Array (Nat × Operand)} {vs : List (Nat × Value)} {cells : Array Value} (h : o.op = .build t ps) (hv : ps.toList.map (fun x => (x.1, ρ x.2)) = vs) (hb : P.built t vs = some cells) : (execOp ρ o).run P w = .ok (.value (.agg cells)) w := by
  have h1 : (ps.map fun x => (x.1, ρ x.2)).toList = vs := by rw [← hv]; simp
  have := run_build w t (ps.map fun x => (x.1, ρ x.2)) cells (by rw [h1]; exact hb)
  simp [execOp, h, this]
end Go.Proofs.YtndophlnapjkhaaGreatDoor.Vc
