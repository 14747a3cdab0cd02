/- Rules for walking a Go function's text one operation at a time: the temporaries as a function of their number, each operation's run as an equation; the rules say nothing of any one program. Conditions: none. -/
import Derived.WalkKit
import Derived.OrdersHeld
import Derived.KernelRfl
import Derived.WalkSpells
import Derived.Deep.RegionHeld3
namespace Go.Proofs.YtndophlnapjkhaaDoor.Vc
open Go

/-! ### The temporaries, as a function -/
abbrev Env : Type := Nat → Value
def Env.put (e : Env) (d : Nat) (v : Value) : Env := fun t => if t = d then v else e t
def Env.puto (e : Env) : Option Nat → Value → Env
  | some d, v => e.put d v
  | none, _ => e
def Env.of (l : List Value) : Env := fun t => l.getD t undef
def ev (e : Env) : Operand → Value
  | .tmp t => e t
  | .const v => v
  | .global g => .pointer (some ⟨g, 0, none⟩)
  | .func f => .func (.func f) #[] #[]

structure Agrees (n : Nat) (a : Act) (e : Env) : Prop where
  size : a.tmps.size = n
  defers : a.defers = []
  get : ∀ t, a.tmps.getD t undef = e t

theorem Agrees.eval {n : Nat} {a : Act} {e : Env} (h : Agrees n a e) : a.eval = ev e := by
  funext x
  cases x with
  | tmp t => exact h.get t
  | _ => rfl

theorem Agrees.put {n : Nat} {a : Act} {e : Env} (h : Agrees n a e) (d : Nat) (hd : d < n) (v : Value) : Agrees n (a.put (some d) v) (e.put d v) := by
  refine ⟨by simp [Act.put, h.size], h.defers, fun t => ?_⟩
  have hs := h.size
  have hg := h.get t
  simp only [Act.put, Env.put]
  by_cases ht : t = d
  · subst ht
    rw [if_pos rfl]
    simp [Array.getD_eq_getD_getElem?, hs, hd]
  · rw [if_neg ht, ← hg]
    simp [Array.getD_eq_getD_getElem?, Array.getElem?_setIfInBounds_ne (Ne.symm ht)]

def dstOk (n : Nat) : Option Nat → Bool
  | some d => Nat.blt d n
  | none => true
theorem Agrees.puto {n : Nat} {a : Act} {e : Env} (h : Agrees n a e) (d : Option Nat) (hd : dstOk n d = true) (v : Value) : Agrees n (a.put d v) (e.puto d v) := by
  cases d with
  | none => exact h
  | some d => exact h.put d (by simpa [dstOk, Nat.blt_eq] using hd) v

theorem Env.put_same (e : Env) (t : Nat) : e.put t (e t) = e := by
  funext x
  unfold Env.put
  split
  · rename_i h; rw [h]
  · rfl

/-! ### Code -/
def Post := Exit → Env → World → Prop
def lift (n : Nat) (Q : Post) : Exit → Act → World → Prop := fun x a w => ∃ e, Agrees n a e ∧ Q x e w
def cwp (P : Program) (n : Nat) (c : Code) (Q : Post) (e : Env) (w : World) : Prop := ∀ a, Agrees n a e → c.wp P (lift n Q) a w
@[reducible] def Post.then (K : Env → World → Prop) (Q : Post) : Post
  | .normal, e, w => K e w
  | x, e, w => Q x e w
@[reducible] def Post.block (id : Nat) (Q : Post) : Post
  | .exit i, e, w => if i = id then Q .normal e w else Q (.exit i) e w
  | x, e, w => Q x e w
section
variable {P : Program} {n : Nat} {Q : Post} {e : Env} {w : World}

theorem cwp_mono {c : Code} {Q' : Post} (h : cwp P n c Q e w) (hq : ∀ x e w, Q x e w → Q' x e w) : cwp P n c Q' e w := fun a ha =>
  wp_mono (h a ha) (fun _ _ _ ⟨e, ha, q⟩ => ⟨e, ha, hq _ _ _ q⟩)

theorem c_seq {x y : Code} (h : cwp P n x (Post.then (fun e w => cwp P n y Q e w) Q) e w) : cwp P n (.seq x y) Q e w := by
  intro a ha
  refine wp_seq (wp_mono (h a ha) fun ex a w hq => ?_)
  obtain ⟨e1, ha1, hq⟩ := hq
  cases ex with
  | normal => exact hq a ha1
  | _ => exact ⟨e1, ha1, hq⟩
/-- What comes behind is shown once, out of a statement on the state. -/
theorem c_cut {x y : Code} (I : Env → World → Prop) (h : cwp P n x (Post.then I Q) e w) (k : ∀ e w, I e w → cwp P n y Q e w) : cwp P n (.seq x y) Q e w :=
  c_seq (cwp_mono h (fun ex e w hq => by cases ex <;> first | exact k _ _ hq | exact hq))
theorem c_skip (h : Q .normal e w) : cwp P n .skip Q e w := fun _ ha => wp_skip ⟨e, ha, h⟩
theorem c_label {l : Nat} (h : Q .normal e w) : cwp P n (.label l) Q e w := fun _ ha => wp_label ⟨e, ha, h⟩
theorem c_exit {id : Nat} (h : Q (.exit id) e w) : cwp P n (.exit id) Q e w := fun _ ha => wp_exit ⟨e, ha, h⟩
theorem c_goto {l : Nat} (h : Q (.goto l) e w) : cwp P n (.goto l) Q e w := fun _ ha => wp_goto ⟨e, ha, h⟩
theorem c_ret (h : Q .ret e w) : cwp P n .ret Q e w := fun _ ha => wp_ret ⟨e, ha, h⟩
theorem c_cond {c : Operand} {x y : Code} {b : Bool} (hc : ev e c = .bool b) (ht : b = true → cwp P n x Q e w) (hf : b = false → cwp P n y Q e w) : cwp P n (.cond c x y) Q e w := fun a ha =>
  wp_cond_split (t := b) (by rw [ha.eval]; exact hc) (fun h => ht h a ha) (fun h => hf h a ha)
theorem c_yes {c : Operand} {x y : Code} (hc : ev e c = .bool true) (h : cwp P n x Q e w) : cwp P n (.cond c x y) Q e w := fun a ha =>
  wp_cond_true (by rw [ha.eval]; exact hc) (h a ha)
theorem c_no {c : Operand} {x y : Code} (hc : ev e c = .bool false) (h : cwp P n y Q e w) : cwp P n (.cond c x y) Q e w := fun a ha =>
  wp_cond_false (by rw [ha.eval]; exact hc) (h a ha)
theorem c_block {id : Nat} {c : Code} (h : cwp P n c (Post.block id Q) e w) : cwp P n (.block id c) Q e w := by
  intro a ha
  refine wp_block (wp_mono (h a ha) fun ex a w hq => ?_)
  obtain ⟨e1, ha1, hq⟩ := hq
  cases ex with
  | exit i =>
    simp only [Exit.inBlock, Post.block] at *
    split at hq
    · rename_i hi; rw [if_pos hi]; exact ⟨e1, ha1, hq⟩
    · rename_i hi; rw [if_neg hi]; exact ⟨e1, ha1, hq⟩
  | _ => exact ⟨e1, ha1, hq⟩
/-- The slots of a row may hold what they will, the others hold what they held. -/
def Env.over (mod : List Nat) (e0 e : Env) : Env := fun t => if mod.contains t then e t else e0 t
def Agree (mod : List Nat) (e0 e : Env) : Prop := ∀ t, mod.contains t = false → e t = e0 t
theorem Agree.refl (mod : List Nat) (e0 : Env) : Agree mod e0 e0 := fun _ _ => rfl
theorem Agree.over (mod : List Nat) (e0 e : Env) : Agree mod e0 (Env.over mod e0 e) := fun t ht => by simp only [Env.over, ht]; rfl
theorem Agree.put {mod : List Nat} {e0 e : Env} (h : Agree mod e0 e) (d : Nat) (v : Value) (hd : mod.contains d = true) : Agree mod e0 (e.put d v) := fun t ht => by
  have : t ≠ d := fun hx => by rw [hx, hd] at ht; cases ht
  simp only [Env.put, if_neg this]
  exact h t ht
theorem Agree.puto {mod : List Nat} {e0 e : Env} (h : Agree mod e0 e) (d : Option Nat) (v : Value) (hd : (match d with | some d => mod.contains d | none => true) = true) : Agree mod e0 (e.puto d v) := by
  cases d with
  | none => exact h
  | some d => exact h.put d v hd
theorem Agree.sub {mod mod' : List Nat} {e0 e1 e : Env} (h : Agree mod e0 e1) (hm : (mod'.all fun t => mod.contains t) = true) : Agree mod e0 (Env.over mod' e1 e) := fun t ht => by
  have : mod'.contains t = false := by
    cases hc : mod'.contains t with
    | false => rfl
    | true =>
      have := List.all_eq_true.1 hm t (by simpa using hc)
      rw [ht] at this
      cases this
  simp only [Env.over, this]
  exact h t ht
theorem Agree.eq_over {mod : List Nat} {e0 e : Env} (h : Agree mod e0 e) : Env.over mod e0 e = e := by
  funext t
  unfold Env.over
  split
  · rfl
  · rename_i hc
    exact (h t (by simpa using hc)).symm
/-- A loop: what holds at the head of each round (of the slots that the rounds write; the others hold what they held); a measure that each round lowers. -/
theorem c_loop {c : Code} (mod : List Nat) (I : Nat → Env → World → Prop) (m : Nat) (h0 : I m e w) (round : ∀ m e' w, I m (Env.over mod e e') w → cwp P n c (Post.then (fun e' w' => Agree mod e e' ∧ ∃ m', m' < m ∧ I m' e' w') Q) (Env.over mod e e') w) : cwp P n (.loop c) Q e w := by
  intro a ha b k cs
  have key : ∀ m a e' w, Agrees n a e' → Agree mod e e' → I m e' w →
      ∃ x a' w', lift n Q x a' w' ∧ Arrives P (lone (b.at a (.code c :: .inLoop c :: k)) cs w) b k cs x a' w' := by
    intro m
    induction m using Nat.strongRecOn with
    | _ m ih =>
      intro a e' w ha hag hI
      have hov := hag.eq_over
      have hr := round m e' w (by rw [hov]; exact hI)
      rw [hov] at hr
      obtain ⟨x, a₁, w₁, ⟨e₁, ha₁, hq⟩, harr⟩ := hr a ha b (.inLoop c :: k) cs
      cases x with
      | normal =>
        obtain ⟨hag₁, m', hlt, hI₁⟩ := hq
        obtain ⟨x₂, a₂, w₂, hq₂, harr₂⟩ := ih m' hlt a₁ e₁ w₁ ha₁ hag₁ hI₁
        exact ⟨x₂, a₂, w₂, hq₂, .of_steps (Steps.trans harr (.one step_inLoop)) harr₂⟩
      | exit id => exact ⟨_, a₁, w₁, ⟨e₁, ha₁, hq⟩, .pass (x := .inLoop c) rfl (fun _ _ => .inl (by simp)) harr⟩
      | goto l => exact ⟨_, a₁, w₁, ⟨e₁, ha₁, hq⟩, .pass (x := .inLoop c) rfl (fun _ _ => .inl (by simp)) harr⟩
      | ret => exact ⟨_, a₁, w₁, ⟨e₁, ha₁, hq⟩, .pass (x := .inLoop c) rfl (fun _ _ => .inl (by simp)) harr⟩
      | panic ch => exact ⟨_, a₁, w₁, ⟨e₁, ha₁, hq⟩, .pass (x := .inLoop c) rfl (fun _ _ => .inl (by simp)) harr⟩
      | outgrown => exact ⟨_, a₁, w₁, ⟨e₁, ha₁, hq⟩, .pass (x := .inLoop c) rfl (fun _ _ => .inl (by simp)) harr⟩
  obtain ⟨x, a', w', hq, harr⟩ := key m a e w ha (Agree.refl _ _) h0
  exact ⟨x, a', w', hq, .of_steps (.one step_loop) harr⟩
/-- Ways that part in x come together behind it: of the slots that x writes only I is known. -/
theorem c_merge {x y : Code} (mod : List Nat) (I : Env → World → Prop) (h : cwp P n x (Post.then (fun e' w' => Agree mod e e' ∧ I e' w') Q) e w) (k : ∀ e' w', I (Env.over mod e e') w' → cwp P n y Q (Env.over mod e e') w') : cwp P n (.seq x y) Q e w :=
  c_cut (fun e' w' => Agree mod e e' ∧ I e' w') h (fun e' w' hq => by
    obtain ⟨ha, hI⟩ := hq
    have := k e' w' (by rw [ha.eq_over]; exact hI)
    rwa [ha.eq_over] at this)
/-- A slot is known to hold a value. -/
theorem c_know {c : Code} {t : Nat} {v : Value} (h : e t = v) (k : cwp P n c Q (e.put t v) w) : cwp P n c Q e w := by
  rw [← h, Env.put_same] at k
  exact k

/-! ### A row of operations in the text's order -/
def lwp (P : Program) (n : Nat) (ops : Array Oper) (Q : Post) (l : List Oper) (e : Env) (w : World) : Prop := ∀ a, Agrees n a e → wpList P ops (lift n Q) l a w
theorem c_ops {id : Nat} {l : List Oper} (h : lwp P n l.toArray Q l e w) : cwp P n (.region id l.toArray false) Q e w := fun a ha => wp_region_lit (h a ha)

def yieldedE (ops : Array Oper) (e : Env) (j : Nat) : Option Bool :=
  match (ops[j]?).bind (·.dst) with
  | some t => match e t with | .bool b => some b | _ => none
  | none => none
theorem yielded_eq {ops : Array Oper} {a : Act} (h : Agrees n a e) (hu : ∀ b, undef ≠ .bool b) (j : Nat) : yielded ops a.tmps j = yieldedE ops e j := by
  unfold yielded yieldedE
  cases hd : (ops[j]?).bind (·.dst) with
  | none => rfl
  | some t =>
    have hg := h.get t
    simp only [Option.bind_some]
    rw [← hg]
    cases ht : a.tmps[t]? with
    | none =>
      have : a.tmps.getD t undef = undef := by simp [Array.getD_eq_getD_getElem?, ht]
      rw [this]
      cases hx : undef with
      | bool b => exact absurd hx (hu b)
      | _ => rfl
    | some v =>
      have : a.tmps.getD t undef = v := by simp [Array.getD_eq_getD_getElem?, ht]
      rw [this]
      cases v <;> rfl
theorem undef_ne (b : Bool) : undef ≠ .bool b := by simp [undef]
theorem wanted_eq {ops : Array Oper} {a : Act} (h : Agrees n a e) (o : Oper) : Region.wanted o (yielded ops a.tmps) = Region.wanted o (yieldedE ops e) := by
  have : yielded ops a.tmps = yieldedE ops e := funext (yielded_eq h undef_ne)
  rw [this]

section
variable {ops : Array Oper} {rest : List Oper} {o : Oper} {w' : World}
theorem l_nil (h : Q .normal e w) : lwp P n ops Q [] e w := fun _ ha => wpList_nil ⟨e, ha, h⟩
theorem l_val {v : Value} {t : Nat} (hd : o.dst = some t) (ht : Nat.blt t n = true) (hw : Region.wanted o (yieldedE ops e) = true) (h : (execOp (ev e) o).run P w = .ok (.value v) w') (k : lwp P n ops Q rest (e.put t v) w') : lwp P n ops Q (o :: rest) e w := by
  intro a ha
  refine wpList_step fun K hK => ?_
  rw [if_pos (by rw [wanted_eq ha]; exact hw)]
  simp only [Oper.wp, ha.eval, h, Oper.upon, hd]
  exact hK _ _ (k _ (ha.put _ (Nat.le_of_ble_eq_true ht) v))
theorem l_do (hd : o.dst = none) (hw : Region.wanted o (yieldedE ops e) = true) (h : (execOp (ev e) o).run P w = .ok .skip w') (k : lwp P n ops Q rest e w') : lwp P n ops Q (o :: rest) e w := by
  intro a ha
  refine wpList_step fun K hK => ?_
  rw [if_pos (by rw [wanted_eq ha]; exact hw)]
  simp only [Oper.wp, ha.eval, h, Oper.upon, hd]
  exact hK _ _ (k _ ha)
theorem l_not {t : Nat} (hd : o.dst = some t) (ht : Nat.blt t n = true) (hw : Region.wanted o (yieldedE ops e) = false) (k : lwp P n ops Q rest (e.put t undef) w) : lwp P n ops Q (o :: rest) e w := by
  intro a ha
  refine wpList_step fun K hK => ?_
  rw [if_neg (by rw [wanted_eq ha, hw]; simp), hd]
  exact hK _ _ (k _ (ha.put _ (Nat.le_of_ble_eq_true ht) undef))
theorem l_call {f : FuncId} {args : Array Value} {t : Nat} (hd : o.dst = some t) (ht : Nat.blt t n = true) (hw : Region.wanted o (yieldedE ops e) = true) (h : (execOp (ev e) o).run P w = .ok (.enter f args) w)
    (k : Calls P f args w fun en w' => ∃ v, en = .returned v ∧ lwp P n ops Q rest (e.put t v) w') : lwp P n ops Q (o :: rest) e w := by
  intro a ha
  refine wpList_step fun K hK => ?_
  rw [if_pos (by rw [wanted_eq ha]; exact hw)]
  simp only [Oper.wp, ha.eval, h, Oper.upon, hd]
  refine Calls.mono k fun en w' he => ?_
  obtain ⟨v, rfl, hk⟩ := he
  exact hK _ _ (hk _ (ha.put _ (Nat.le_of_ble_eq_true ht) v))
/-- A bool in a slot, case by case. -/
theorem l_case (t : Nat) {b : Bool} {l : List Oper} (hb : e t = .bool b) (ht : b = true → lwp P n ops Q l (e.put t (.bool true)) w) (hf : b = false → lwp P n ops Q l (e.put t (.bool false)) w) : lwp P n ops Q l e w := by
  have hs := Env.put_same e t
  rw [hb] at hs
  cases b with
  | true => have := ht rfl; rwa [hs] at this
  | false => have := hf rfl; rwa [hs] at this
theorem l_know {t : Nat} {v : Value} {l : List Oper} (h : e t = v) (k : lwp P n ops Q l (e.put t v) w) : lwp P n ops Q l e w := by
  rw [← h, Env.put_same] at k
  exact k
end

/-! ### A row of operations in whatever order its edges allow; S: what holds of the world at every moment -/
def hwp (P : Program) (n : Nat) (ops : Array Oper) (Q : Post) (S : World → Prop) (fuel : Nat) (listed : Array Bool) (e : Env) (w : World) : Prop :=
  ∀ a, Agrees n a e → wpAnyH P .any ops (lift n Q) S fuel listed a w
section
variable {ops : Array Oper} {S : World → Prop} {listed : Array Bool} {fuel : Nat}
theorem c_any {id : Nat} (S : World → Prop) (hm : P.follows .mixedOrders = true) (h : hwp P n ops Q S ops.size (Array.replicate ops.size false) e w.drew) : cwp P n (.region id ops true) Q e w := fun a ha =>
  wp_region_held (S := S) hm (h a ha)
theorem h_done (hr : Region.ready .any ops listed = []) (h : Q .normal e w) : hwp P n ops Q S fuel listed e w := fun _ ha => wpAnyH_done hr ⟨e, ha, h⟩ _
/-- Operation i, taken now: it reads, and in every world that meets S what it reads is v. -/
def takeB (n : Nat) (ops : Array Oper) (listed : Array Bool) (i t : Nat) : Bool :=
  Region.noSelect ops && Region.free .any ops listed i && (Region.ready .any ops listed).contains i && Nat.blt t n
theorem takeB_spec {i t : Nat} (hb : takeB n ops listed i t = true) : Region.noSelect ops = true ∧ Region.free .any ops listed i = true ∧ (Region.ready .any ops listed).contains i = true ∧ Nat.blt t n = true := by
  unfold takeB at hb
  simp only [Bool.and_eq_true] at hb
  exact ⟨hb.1.1.1, hb.1.1.2, hb.1.2, hb.2⟩
theorem h_t (i : Nat) {o : Oper} {t : Nat} {v : Value} (hi : ops[i]? = some o) (hd : o.dst = some t) (hb : takeB n ops listed i t = true)
    (hQ : ∀ c e w, ¬ Q (.panic c) e w) (hS : S w) (hw : Region.wanted o (yieldedE ops e) = true) (hv : ∀ W, S W → (execOp (ev e) o).run P W = .ok (.value v) W)
    (k : hwp P n ops Q S fuel (listed.setIfInBounds i true) (e.put t v) w) : hwp P n ops Q S (fuel + 1) listed e w := by
  obtain ⟨h1, h2, h3, h4⟩ := takeB_spec hb
  intro a ha
  have hk := k _ (ha.put t (Nat.le_of_ble_eq_true h4) v)
  rw [← hd] at hk
  refine wpAnyH_take hi h1 h2 h3 (fun c a w hq => ?_) (.inl ⟨by rw [wanted_eq ha]; exact hw, fun W hW => by rw [ha.eval]; exact hv W hW⟩) hS hk
  obtain ⟨e', _, hq⟩ := hq
  exact absurd hq (hQ c e' w)
theorem h_n (i : Nat) {o : Oper} {t : Nat} (hi : ops[i]? = some o) (hd : o.dst = some t) (hb : takeB n ops listed i t = true)
    (hQ : ∀ c e w, ¬ Q (.panic c) e w) (hS : S w) (hw : Region.wanted o (yieldedE ops e) = false)
    (k : hwp P n ops Q S fuel (listed.setIfInBounds i true) (e.put t undef) w) : hwp P n ops Q S (fuel + 1) listed e w := by
  obtain ⟨h1, h2, h3, h4⟩ := takeB_spec hb
  intro a ha
  have hk := k _ (ha.put t (Nat.le_of_ble_eq_true h4) undef)
  rw [← hd] at hk
  refine wpAnyH_take hi h1 h2 h3 (fun c a w hq => ?_) (.inr ⟨by rw [wanted_eq ha]; exact hw, rfl⟩) hS hk
  obtain ⟨e', _, hq⟩ := hq
  exact absurd hq (hQ c e' w)
/-- Only operation i may come up. -/
def oneB (n : Nat) (ops : Array Oper) (listed : Array Bool) (i t : Nat) : Bool := (Region.ready .any ops listed) == [i] && Nat.blt t n
theorem oneB_spec {i t : Nat} (hb : oneB n ops listed i t = true) : Region.ready .any ops listed = [i] ∧ t < n := by
  unfold oneB at hb
  simp only [Bool.and_eq_true, beq_iff_eq] at hb
  exact ⟨hb.1, Nat.le_of_ble_eq_true hb.2⟩
theorem h_one (i : Nat) {o : Oper} {t : Nat} {v : Value} {w' : World} (hi : ops[i]? = some o) (hd : o.dst = some t) (hb : oneB n ops listed i t = true) (hw : Region.wanted o (yieldedE ops e) = true)
    (h : (execOp (ev e) o).run P w = .ok (.value v) w') (hS : S w') (k : hwp P n ops Q S fuel (listed.setIfInBounds i true) (e.put t v) w') : hwp P n ops Q S (fuel + 1) listed e w := by
  obtain ⟨hr, ht⟩ := oneB_spec hb
  intro a ha
  refine wpAnyH_all hr (by simp) fun j hj => ?_
  rw [List.mem_singleton] at hj
  subst hj
  unfold wpOp
  simp only [hi]
  rw [if_pos (by rw [wanted_eq ha]; exact hw)]
  refine .inl ?_
  simp only [Oper.wp, ha.eval, h, Oper.upon, hd]
  exact ⟨hS, k _ (ha.put t ht v)⟩
theorem h_one_do (i : Nat) {o : Oper} {w' : World} (hi : ops[i]? = some o) (hd : o.dst = none) (hb : oneB (n + 1) ops listed i 0 = true) (hw : Region.wanted o (yieldedE ops e) = true)
    (h : (execOp (ev e) o).run P w = .ok .skip w') (hS : S w') (k : hwp P n ops Q S fuel (listed.setIfInBounds i true) e w') : hwp P n ops Q S (fuel + 1) listed e w := by
  obtain ⟨hr, _⟩ := oneB_spec hb
  intro a ha
  refine wpAnyH_all hr (by simp) fun j hj => ?_
  rw [List.mem_singleton] at hj
  subst hj
  unfold wpOp
  simp only [hi]
  rw [if_pos (by rw [wanted_eq ha]; exact hw)]
  refine .inl ?_
  simp only [Oper.wp, ha.eval, h, Oper.upon, hd]
  exact ⟨hS, k _ ha⟩
theorem h_one_call (i : Nat) {o : Oper} {t : Nat} {f : FuncId} {args : Array Value} (hi : ops[i]? = some o) (hd : o.dst = some t) (hb : oneB n ops listed i t = true) (hw : Region.wanted o (yieldedE ops e) = true)
    (h : (execOp (ev e) o).run P w = .ok (.enter f args) w)
    (k : Calls P f args w fun en w' => ∃ v, en = .returned v ∧ S w' ∧ hwp P n ops Q S fuel (listed.setIfInBounds i true) (e.put t v) w') : hwp P n ops Q S (fuel + 1) listed e w := by
  obtain ⟨hr, ht⟩ := oneB_spec hb
  intro a ha
  refine wpAnyH_all hr (by simp) fun j hj => ?_
  rw [List.mem_singleton] at hj
  subst hj
  unfold wpOp
  simp only [hi]
  rw [if_pos (by rw [wanted_eq ha]; exact hw)]
  refine .inl ?_
  simp only [Oper.wp, ha.eval, h, Oper.upon, hd]
  refine Calls.mono k fun en w' he => ?_
  obtain ⟨v, rfl, hs, hk⟩ := he
  exact ⟨hs, hk _ (ha.put t ht v)⟩
theorem h_case (t : Nat) {b : Bool} (hb : e t = .bool b) (ht : b = true → hwp P n ops Q S fuel listed (e.put t (.bool true)) w) (hf : b = false → hwp P n ops Q S fuel listed (e.put t (.bool false)) w) : hwp P n ops Q S fuel listed e w := by
  have hs := Env.put_same e t
  rw [hb] at hs
  cases b with
  | true => have := ht rfl; rwa [hs] at this
  | false => have := hf rfl; rwa [hs] at this
end

/-! ### A call -/
def outv : List Nat → Env → Value
  | [t], e => e t
  | l, e => .tuple (l.map e).toArray
@[reducible] def Back (ts : List Nat) (R : Value → World → Prop) : Post
  | .normal, e, w | .ret, e, w => R (outv ts e) w
  | _, _, _ => False
theorem results0 {fn : Func} (hr : fn.results = (([] : List Nat).map ResultVar.tmp).toArray) {a : Act} : (results fn a.tmps).run P w = .ok (outv [] e) w := by
  simp [results, hr, outv]
theorem results1 {fn : Func} {t : Nat} (hr : fn.results = ([t].map ResultVar.tmp).toArray) {a : Act} (ha : Agrees n a e) : (results fn a.tmps).run P w = .ok (outv [t] e) w := by
  have h1 := ha.get t
  simp [results, hr, outv, ← h1]
theorem results2 {fn : Func} {t u : Nat} (hr : fn.results = ([t, u].map ResultVar.tmp).toArray) {a : Act} (ha : Agrees n a e) : (results fn a.tmps).run P w = .ok (outv [t, u] e) w := by
  have h1 := ha.get t
  have h2 := ha.get u
  simp [results, hr, outv, ← h1, ← h2]
theorem results3 {fn : Func} {t u v : Nat} (hr : fn.results = ([t, u, v].map ResultVar.tmp).toArray) {a : Act} (ha : Agrees n a e) : (results fn a.tmps).run P w = .ok (outv [t, u, v] e) w := by
  have h1 := ha.get t
  have h2 := ha.get u
  have h3 := ha.get v
  simp [results, hr, outv, ← h1, ← h2, ← h3]
theorem results4 {fn : Func} {t u v x : Nat} (hr : fn.results = ([t, u, v, x].map ResultVar.tmp).toArray) {a : Act} (ha : Agrees n a e) : (results fn a.tmps).run P w = .ok (outv [t, u, v, x] e) w := by
  have h1 := ha.get t
  have h2 := ha.get u
  have h3 := ha.get v
  have h4 := ha.get x
  simp [results, hr, outv, ← h1, ← h2, ← h3, ← h4]
theorem results_eq {fn : Func} (ts : List Nat) (hl : Nat.blt ts.length 5 = true) (hr : fn.results = (ts.map ResultVar.tmp).toArray) {a : Act} (ha : Agrees n a e) : (results fn a.tmps).run P w = .ok (outv ts e) w := by
  match ts, hl, hr with
  | [], _, hr => exact results0 hr
  | [_], _, hr => exact results1 hr ha
  | [_, _], _, hr => exact results2 hr ha
  | [_, _, _], _, hr => exact results3 hr ha
  | [_, _, _, _], _, hr => exact results4 hr ha
  | _ :: _ :: _ :: _ :: _ :: _, hl, _ => simp [Nat.blt] at hl
theorem agrees_start {n : Nat} (args : List Value) (h : args.length ≤ n) : Agrees n { tmps := args.toArray ++ Array.replicate (n - args.toArray.size) undef, defers := [] } (Env.of args) := by
  refine ⟨by simp; omega, rfl, fun t => ?_⟩
  unfold Env.of
  rcases Nat.lt_or_ge t args.length with ht | ht
  · simp [Array.getD_eq_getD_getElem?, Array.getElem?_append, ht, List.getD_eq_getElem?_getD]
  · simp only [Array.getD_eq_getD_getElem?, List.getD_eq_getElem?_getD, Array.getElem?_append, List.size_toArray, Nat.not_lt.2 ht, if_false, List.getElem?_eq_none ht, Option.getD_none]
    rw [Array.getElem?_replicate]
    split <;> rfl
/-- A CALL of a function whose text is c, whose results stand in slots ts. -/
theorem calls {f : FuncId} {fn : Func} {c : Code} (ts : List Nat) {args : List Value} {R : Ending → World → Prop} (hf : P.funcs[f]? = some fn) (hb : fn.body = some c) (hn : Nat.ble args.length fn.ntmps = true) (hl : Nat.blt ts.length 5 = true)
    (hr : fn.results = (ts.map ResultVar.tmp).toArray) (h : cwp P fn.ntmps c (Back ts fun v w' => R (.returned v) w') (Env.of args) w) : Calls P f args.toArray w R := by
  refine calls_of_wp hf hb ?_
  refine wp_mono (h _ (agrees_start args (Nat.le_of_ble_eq_true hn))) fun x a w' hq => ?_
  obtain ⟨e, ha, hq⟩ := hq
  cases x with
  | normal => exact ⟨ha.defers, _, results_eq ts hl hr ha, hq⟩
  | ret => exact ⟨ha.defers, _, results_eq ts hl hr ha, hq⟩
  | _ => exact hq.elim
theorem ret_bool {v : Value} {b b' : Bool} (h : v = .bool b) (hb : b = b') : Ending.returned v = .returned (.bool b') := by rw [h, hb]
theorem ret_int {v : Value} {k : IntKind} {b b' : Int} (h : v = .int k b) (hb : b = b') : Ending.returned v = .returned (.int k b') := by rw [h, hb]
theorem ret_str {v : Value} {b b' : ByteArray} (h : v = .string b) (hb : b = b') : Ending.returned v = .returned (.string b') := by rw [h, hb]
theorem Back.no_panic {ts : List Nat} {R : Value → World → Prop} (c : List PanicEntry) (e : Env) (w : World) : ¬ Back ts R (.panic c) e w := fun h => h
end
end Go.Proofs.YtndophlnapjkhaaDoor.Vc
