/- What may stand for what: the map of pairs, and the rules of package sub. Conditions: those of each statement. -/
import Derived.Laws.StructEq
import Derived.Test.YtndophlnapjkhaaDoorGraph3
import Derived.Test.YtndophlnapjkhaaDoorFrame
namespace Go.Proofs.YtndophlnapjkhaaDoor.Vc
open Go Go.RowKit
set_option linter.unusedVariables false
set_option linter.unusedSimpArgs false

theorem eq_pair (a b c d : Int) (w : World) : (Op.equalIn 10000 62 (.agg #[.int .i64 a, .int .i64 b]) (.agg #[.int .i64 c, .int .i64 d])).run Tryd.prog w = .ok (decide (a = c) && decide (b = d)) w := by
  have u3 := Tryd.underlying3
  have a3 := Tryd.isAgg3
  have z3 := Tryd.sizeOf3
  have hS : Tryd.prog.underlying 62 = some (.struct (Tryd.prog.fieldsOf 62)) := by kernel_rfl
  have hp : Tryd.prog.stoodInHeld 62 = false := by kernel_rfl
  rw [show (10000 : Nat) = 9999 + 1 from rfl, run_equalIn_agg w 9999 62 _ _ hS hp]
  simp only [Program.fieldsOf, Tryd.underlying62]
  go_simp
  by_cases h1 : a = c <;> by_cases h2 : b = d <;> simp [h1, h2]
theorem key_pair : KeyLaw Tryd.prog 62 enc2 := KeyLaw.pair (fun a b c d w => eq_pair a b c d w) (by
  intro e a b w
  have u3 := Tryd.underlying3
  have a3 := Tryd.isAgg3
  have z3 := Tryd.sizeOf3
  have hint : ∀ d v w, (Instr.checkKey e (d + 1) 3 (.int .i64 v)).run Tryd.prog w = .ok () w := fun d v w => by
    rw [Instr.checkKey]
    simp [run_underlying u3]
  have hall : ∀ d, (Instr.checkKey e (d + 1 + 1) 62 (.agg #[.int .i64 a, .int .i64 b])).run Tryd.prog w = .ok () w := fun d => by
    rw [Instr.checkKey]
    simp only [Sem.run_bind, run_underlying Tryd.underlying62, Result.andThen_ok]
    go_simp
    all_goals simp [hint]
  exact hall 9998) Tryd.underlying62
/-- What is known of pairs: 1: taken for granted; 0: taken away. -/
abbrev PM : Type := List ((Int × Int) × Int)
def grant (m : PM) (p : Int × Int) : Bool × PM :=
  match getM m p with
  | none => (true, setM m p 1)
  | some n => (decide (0 < n), m)
def idxS (l : List ByteArray) (s : ByteArray) : Option Nat := (findS (fun (_ : Unit) x => (decide (s = x), ())) 0 () l).1
def recM (s : GNode) : PM → List (ByteArray × Int) → Bool × PM
  | m, [] => (true, m)
  | m, (key, tl) :: r => if idxV (idxS s.keys key) < 0 then (false, m) else if (grant m (iat s.l (idxV (idxS s.keys key)), tl)).1 then recM s (grant m (iat s.l (idxV (idxS s.keys key)), tl)).2 r else (false, (grant m (iat s.l (idxV (idxS s.keys key)), tl)).2)
def ruleM (m : PM) (s t : GNode) : Bool × PM :=
  if s.kind = 5 then (decide (s.name = t.name), m) else if s.kind = 7 then recM s m (t.keys.zip t.l) else if s.kind = 9 then (if s.num = t.num then grant m (iat s.l 0, iat t.l 0) else (false, m)) else (true, m)
def doesM (st : Bool) (m : PM) (s t : GNode) : Bool × PM := if s.kind = 1 ∨ t.kind = 1 then (!st || decide (s.kind = t.kind), m) else if s.kind = t.kind then ruleM m s t else (false, m)
def pickM (g : List GNode) (st : Bool) (m : PM) (a b : Int) : Int × PM :=
  match findS (fun m k => doesM st m (gat g a) (gat g k)) 0 m (membersG g b) with
  | (some i, m') => ((i : Int), m')
  | (none, m') => if (gat g a).kind = 9 then (if (grant m' (iat (gat g a).l 0, b)).1 then (-1, (grant m' (iat (gat g a).l 0, b)).2) else (-2, (grant m' (iat (gat g a).l 0, b)).2)) else (-2, m')
def holdsM (g : List GNode) (st : Bool) (m : PM) (p : Int × Int) : Bool × PM :=
  let r := findS (fun m s => (decide ((pickM g st m s p.2).1 = -2), (pickM g st m s p.2).2)) 0 m (membersG g p.1)
  (!r.1.isSome, r.2)
/-- A solver, and its map. -/
def solB (A : Value) (st : Bool) (mb : Nat) : Obj := .cells #[A, .bool st, .map (some mb)] 89 (0, 0)
abbrev Sol (xb mb : Nat) (A : Value) (st : Bool) (m : PM) : List Res := [.blk xb (solB A st mb), .blk mb (mapObj enc2 (Value.int .i64) m)]
theorem Has.sol {w w' : World} {xb mb : Nat} {A : Value} {st : Bool} {m m' : PM} (L1 : List Res) (h : Has w (L1 ++ Sol xb mb A st m)) (hE : Ext (fun k => k = mb) w w') (h2 : Has w' (Sol xb mb A st m')) : Has w' (L1 ++ Sol xb mb A st m') :=
  h.frame hE h2 (fun k hk => ⟨_, List.mem_cons_of_mem _ (List.mem_singleton.2 rfl), by rw [hk]; rfl⟩) (fun r hr b hb => by
    refine .inl ?_
    rcases List.mem_cons.1 hr with rfl | hr
    · exact ⟨_, List.mem_cons_self, hb⟩
    · rw [List.mem_singleton] at hr
      subst hr
      exact ⟨_, List.mem_cons_of_mem _ (List.mem_singleton.2 rfl), hb⟩)
theorem built_pair (a b : Int) : Tryd.prog.built 62 [(0, .int .i64 a), (1, .int .i64 b)] = some #[.int .i64 a, .int .i64 b] := by kernel_rfl
theorem granted_calls (w0 : World) (xb mb : Nat) (A : Value) (st : Bool) (m : PM) (p : Int × Int) (hL : Has w0 (Sol xb mb A st m)) :
    Calls Tryd.prog 53 [.pointer (some ⟨xb, 0, none⟩), enc2 p].toArray w0 fun en w' => en = .returned (.bool (grant m p).1) ∧ Ext (fun k => k = mb) w0 w' ∧ Has w' (Sol xb mb A st (grant m p).2) := by
  have hE : Ext (fun k => k = mb) w0 w0 := Ext.refl _ _
  unfold grant
  cases hg : getM m p with
  | none =>
  refine calls [4] Tryd.func53 rfl rfl rfl rfl ?_
  refine c_seq ?_
  -- region 0
  refine c_ops ?_
  refine l_new rfl rfl rfl (n_box rfl hL hE) ?_
  rintro _ w ⟨b3, rfl, hb3, hL, hE, hX⟩
  refine l_val rfl rfl rfl (r_assign rfl) ?_
  refine l_nil ?_
  refine c_seq ?_
  -- region 1
  refine c_draw mixed (hL) hE ?_
  replace hL := hL.drew
  replace hE := hE.drew
  have hK := hL
  refine h_t 0 rfl rfl (by kernel_rfl) (fun _ _ _ h => h) ⟨hK, hE⟩ rfl (fun W hW => r_move rfl) ?_
  refine h_t 1 rfl rfl (by kernel_rfl) (fun _ _ _ h => h) ⟨hK, hE⟩ rfl (fun W hW => r_nilCheck rfl rfl) ?_
  refine h_t 2 rfl rfl (by kernel_rfl) (fun _ _ _ h => h) ⟨hK, hE⟩ rfl (fun W hW => r_fieldAddr (n := 0) rfl Tryd.underlying89 rfl Tryd.sizeOf87 rfl) ?_
  refine h_t 3 rfl rfl (by kernel_rfl) (fun _ _ _ h => h) ⟨hK, hE⟩ rfl (fun W hW => r_load_blk rfl Tryd.isAgg87 rfl (hW.1.get 1 rfl) rfl) ?_
  refine h_t 4 rfl rfl (by kernel_rfl) (fun _ _ _ h => h) ⟨hK, hE⟩ rfl (fun W hW => r_load_blk_agg rfl Tryd.isAgg62 Tryd.sizeOf62 rfl (hW.1.get 0 rfl) rfl) ?_
  refine h_t 5 rfl rfl (by kernel_rfl) (fun _ _ _ h => h) ⟨hK, hE⟩ rfl (fun W hW => r_lookup_ok_none (k := p) rfl Tryd.underlying87 key_pair Tryd.zeroValue3 rfl rfl (hW.1.get 2 rfl) hg) ?_
  refine h_t 6 rfl rfl (by kernel_rfl) (fun _ _ _ h => h) ⟨hK, hE⟩ rfl (fun W hW => r_move rfl) ?_
  refine h_t 7 rfl rfl (by kernel_rfl) (fun _ _ _ h => h) ⟨hK, hE⟩ rfl (fun W hW => r_extract rfl rfl rfl) ?_
  refine h_t 8 rfl rfl (by kernel_rfl) (fun _ _ _ h => h) ⟨hK, hE⟩ rfl (fun W hW => r_extract rfl rfl rfl) ?_
  refine h_t 9 rfl rfl (by kernel_rfl) (fun _ _ _ h => h) ⟨hK, hE⟩ rfl (fun W hW => r_assign rfl) ?_
  refine h_t 10 rfl rfl (by kernel_rfl) (fun _ _ _ h => h) ⟨hK, hE⟩ rfl (fun W hW => r_assign rfl) ?_
  refine h_done (by kernel_rfl) ?_
  refine c_seq ?_
  refine c_seq ?_
  -- region 2
  refine c_ops ?_
  refine l_val rfl rfl rfl (r_move rfl) ?_
  refine l_val rfl rfl rfl (r_not rfl rfl) ?_
  refine l_nil ?_
  refine c_yes rfl ?_
  refine c_seq ?_
  -- region 3
  refine c_draw mixed (hL.sub (.cons_cons _ (.cons_cons _ (.cons _ .slnil)))) hE ?_
  replace hL := hL.drew
  replace hE := hE.drew
  have hK := hL.sub (.cons_cons _ (.cons_cons _ (.cons _ .slnil)))
  refine h_t 0 rfl rfl (by kernel_rfl) (fun _ _ _ h => h) ⟨hK, hE⟩ rfl (fun W hW => r_move rfl) ?_
  refine h_t 1 rfl rfl (by kernel_rfl) (fun _ _ _ h => h) ⟨hK, hE⟩ rfl (fun W hW => r_nilCheck rfl rfl) ?_
  refine h_t 2 rfl rfl (by kernel_rfl) (fun _ _ _ h => h) ⟨hK, hE⟩ rfl (fun W hW => r_fieldAddr (n := 0) rfl Tryd.underlying89 rfl Tryd.sizeOf87 rfl) ?_
  refine h_t 3 rfl rfl (by kernel_rfl) (fun _ _ _ h => h) ⟨hK, hE⟩ rfl (fun W hW => r_load_blk rfl Tryd.isAgg87 rfl (hW.1.get 1 rfl) rfl) ?_
  refine h_t 4 rfl rfl (by kernel_rfl) (fun _ _ _ h => h) ⟨hK, hE⟩ rfl (fun W hW => r_load_blk_agg rfl Tryd.isAgg62 Tryd.sizeOf62 rfl (hW.1.get 0 rfl) rfl) ?_
  refine h_new_do 5 rfl rfl (by kernel_rfl) rfl (r_mapUpdate (k := p) (v := (1 : Int)) 2 rfl Tryd.underlying87 key_pair rfl rfl rfl hL hE rfl (fun _ => rfl)) ?_   -- sub.go:45 slot None := (mapUpdate 87 (tmp 21) (tmp 22) (const (int IntKind.i64 1)))
  rintro w ⟨hL, hE, hz, hk⟩
  have hK := hL.sub (.cons_cons _ (.cons_cons _ (.cons _ .slnil)))
  refine ⟨⟨hK, hE⟩, ?_⟩
  refine h_done (by kernel_rfl) ?_
  refine c_seq ?_
  -- region 4
  refine c_ops ?_
  refine l_val rfl rfl rfl (r_assign rfl) ?_
  refine l_nil ?_
  refine c_ret ?_
  exact ⟨rfl, ⟨hE, hL.tail⟩⟩
  | some n =>
  refine calls [4] Tryd.func53 rfl rfl rfl rfl ?_
  refine c_seq ?_
  -- region 0
  refine c_ops ?_
  refine l_new rfl rfl rfl (n_box rfl hL hE) ?_
  rintro _ w ⟨b3, rfl, hb3, hL, hE, hX⟩
  refine l_val rfl rfl rfl (r_assign rfl) ?_
  refine l_nil ?_
  refine c_seq ?_
  -- region 1
  refine c_draw mixed (hL) hE ?_
  replace hL := hL.drew
  replace hE := hE.drew
  have hK := hL
  refine h_t 0 rfl rfl (by kernel_rfl) (fun _ _ _ h => h) ⟨hK, hE⟩ rfl (fun W hW => r_move rfl) ?_
  refine h_t 1 rfl rfl (by kernel_rfl) (fun _ _ _ h => h) ⟨hK, hE⟩ rfl (fun W hW => r_nilCheck rfl rfl) ?_
  refine h_t 2 rfl rfl (by kernel_rfl) (fun _ _ _ h => h) ⟨hK, hE⟩ rfl (fun W hW => r_fieldAddr (n := 0) rfl Tryd.underlying89 rfl Tryd.sizeOf87 rfl) ?_
  refine h_t 3 rfl rfl (by kernel_rfl) (fun _ _ _ h => h) ⟨hK, hE⟩ rfl (fun W hW => r_load_blk rfl Tryd.isAgg87 rfl (hW.1.get 1 rfl) rfl) ?_
  refine h_t 4 rfl rfl (by kernel_rfl) (fun _ _ _ h => h) ⟨hK, hE⟩ rfl (fun W hW => r_load_blk_agg rfl Tryd.isAgg62 Tryd.sizeOf62 rfl (hW.1.get 0 rfl) rfl) ?_
  refine h_t 5 rfl rfl (by kernel_rfl) (fun _ _ _ h => h) ⟨hK, hE⟩ rfl (fun W hW => r_lookup_ok_some (k := p) rfl Tryd.underlying87 key_pair Tryd.zeroValue3 rfl rfl (hW.1.get 2 rfl) hg) ?_
  refine h_t 6 rfl rfl (by kernel_rfl) (fun _ _ _ h => h) ⟨hK, hE⟩ rfl (fun W hW => r_move rfl) ?_
  refine h_t 7 rfl rfl (by kernel_rfl) (fun _ _ _ h => h) ⟨hK, hE⟩ rfl (fun W hW => r_extract rfl rfl rfl) ?_
  refine h_t 8 rfl rfl (by kernel_rfl) (fun _ _ _ h => h) ⟨hK, hE⟩ rfl (fun W hW => r_extract rfl rfl rfl) ?_
  refine h_t 9 rfl rfl (by kernel_rfl) (fun _ _ _ h => h) ⟨hK, hE⟩ rfl (fun W hW => r_assign rfl) ?_
  refine h_t 10 rfl rfl (by kernel_rfl) (fun _ _ _ h => h) ⟨hK, hE⟩ rfl (fun W hW => r_assign rfl) ?_
  refine h_done (by kernel_rfl) ?_
  refine c_seq ?_
  refine c_seq ?_
  -- region 2
  refine c_ops ?_
  refine l_val rfl rfl rfl (r_move rfl) ?_
  refine l_val rfl rfl rfl (r_not rfl rfl) ?_
  refine l_nil ?_
  refine c_no rfl ?_
  refine c_skip ?_
  refine c_seq ?_
  -- region 5
  refine c_ops ?_
  refine l_val rfl rfl rfl (r_move rfl) ?_
  refine l_val rfl rfl rfl (r_gtr rfl rfl rfl) ?_
  refine l_val rfl rfl rfl (r_assign rfl) ?_
  refine l_nil ?_
  refine c_ret ?_
  exact ⟨rfl, ⟨hE, hL.tail⟩⟩
theorem Index_str (w0 : World) (A : Option Addr) (n c : Nat) (xs : List ByteArray) (s : ByteArray) (hx : Sl w0 1 RStr A n c xs) :
    Calls Tryd.prog 87 [.slice A n c, .string s].toArray w0 fun en w' => en = .returned (.int .i64 (idxV (idxS xs s))) ∧ Ext0 w0 w' := by
  have hE : Ext0 w0 w0 := Ext.refl _ _
  have hlen : xs.length = n := hx.len
  have hmax := hx.max
  have hsome := hx.is
  unfold idxS
  refine calls [4] Tryd.func87 rfl rfl rfl rfl ?_
  refine c_seq ?_
  -- region 0
  refine c_ops ?_
  refine l_val rfl rfl rfl (r_assign rfl) ?_
  refine l_nil ?_
  refine c_seq ?_
  refine c_seq ?_
  -- region 1
  refine c_ops ?_
  refine l_val rfl rfl rfl (r_move rfl) ?_
  refine l_val rfl rfl rfl (r_len rfl Tryd.underlying43 rfl) ?_
  refine l_val rfl rfl rfl (r_move rfl) ?_
  refine l_nil ?_
  refine c_block ?_
  -- loop 0: slots that it writes and that are read in it ahead of that: [8]
  refine c_loop [4, 5, 8, 9, 10, 11, 12, 13, 14, 15, 16, 17, 18] (fun m1 e w => ∃ k : Nat, k ≤ n ∧ m1 = n - k ∧ e 8 = .int .i64 k ∧ findS (fun (_ : Unit) x => (decide (s = x), ())) 0 () xs = findS (fun (_ : Unit) x => (decide (s = x), ())) k () (xs.drop k) ∧ Ext0 w0 w) n ?_ ?_
  · exact ⟨0, Nat.zero_le _, rfl, rfl, rfl, hE⟩
  intro m1 e w hI
  obtain ⟨k, hk, hm, h8, hfind, hE⟩ := hI
  refine c_know h8 ?_
  refine c_seq ?_
  -- region 2
  refine c_ops ?_
  refine l_val rfl rfl rfl (r_lss rfl rfl rfl) ?_
  refine l_nil ?_
  refine c_seq ?_
  refine c_cond rfl (fun hb => ?_) (fun hb => ?_)
  · -- True
    have hr9 := hb
    replace hb := of_decide_eq_true hb
    have hkn : k < n := by omega
    have hxk : xs[k]? = some (xs.getD (k : Int).toNat ByteArray.empty) := by rw [Int.toNat_natCast, List.getD_eq_getElem?_getD, List.getElem?_eq_getElem (by omega)]; rfl
    have hstep := findS_step (fun (_ : Unit) x => (decide (s = x), ())) () xs k _ hxk
    refine c_skip ?_
    refine c_seq ?_
    refine c_block ?_
    refine c_seq ?_
    -- region 3
    refine c_ops ?_
    refine l_val rfl rfl rfl (r_move rfl) ?_
    refine l_val rfl rfl rfl (r_assign rfl) ?_
    refine l_nil ?_
    refine c_seq ?_
    -- region 4
    refine c_ops ?_
    refine l_val rfl rfl rfl (r_move rfl) ?_
    refine l_val rfl rfl rfl (r_move rfl) ?_
    refine l_val rfl rfl rfl (r_move rfl) ?_
    refine l_val rfl rfl rfl (r_indexAddr_sl rfl Tryd.underlying43 Tryd.sizeOf9 rfl hsome rfl (by omega) (by omega)) ?_
    refine l_val rfl rfl rfl (r_load rfl Tryd.isAgg9 rfl ((hx.keep RStr.kept (Ext0.cells hE)).str k (by omega) (by omega))) ?_
    refine l_val rfl rfl rfl (r_seql rfl rfl rfl) ?_
    refine l_nil ?_
    refine c_cond rfl (fun hb => ?_) (fun hb => ?_)
    · -- True
      have hr16 := hb
      replace hb := of_decide_eq_true hb
      refine c_seq ?_
      -- region 5
      refine c_ops ?_
      refine l_val rfl rfl rfl (r_move rfl) ?_
      refine l_val rfl rfl rfl (r_assign rfl) ?_
      refine l_nil ?_
      refine c_ret ?_
      exact ⟨ret_int rfl (by rw [hfind, hstep, if_pos (by simpa using hb)]; rfl), hE⟩
    · -- False
      have hr16 := hb
      replace hb := of_decide_eq_false hb
      refine c_skip ?_
      -- region 6
      refine c_ops ?_
      refine l_val rfl rfl rfl (r_add rfl rfl rfl) ?_
      refine l_val rfl rfl rfl (r_move rfl) ?_
      refine l_nil ?_
      refine ⟨by repeat (first | exact Agree.over _ _ _ | exact Agree.refl _ _ | (refine Agree.puto ?_ _ _ rfl) | (refine Agree.put ?_ _ _ rfl) | (refine Agree.sub ?_ rfl)), ?_⟩
      exact ⟨n - (k + 1), by omega, k + 1, by omega, rfl, by show Value.int .i64 (IntKind.i64.wrap ((k : Int) + 1)) = _; rw [wrap_succ hkn hmax], by rw [hfind, hstep, if_neg (by simpa using hb)], hE⟩
  · -- False
    have hr9 := hb
    replace hb := of_decide_eq_false hb
    have hkn : n ≤ k := by omega
    refine c_exit ?_
    refine c_seq ?_
    -- region 7
    refine c_ops ?_
    refine l_val rfl rfl rfl (r_assign rfl) ?_
    refine l_nil ?_
    refine c_ret ?_
    exact ⟨ret_int rfl (by rw [hfind, findS_end _ _ _ _ (by omega)]; rfl), hE⟩
theorem base_calls (w0 : World) (xb mb : Nat) (A : Value) (st : Bool) (m : PM) (s t : GNode) (Ak : Option Addr) (ck : Nat) (Al : Option Addr) (cl : Nat) (Bk : Option Addr) (dk : Nat) (Bl : Option Addr) (dl : Nat) (hL : Has w0 (Sol xb mb A st m))
    (hsk : Strs w0 Ak ck s.keys) (hsl : Ints w0 Al cl s.l) (htk : Strs w0 Bk dk t.keys) (htl : Ints w0 Bl dl t.l)  :
    Calls Tryd.prog 80 [.pointer (some ⟨xb, 0, none⟩), .agg (nodeCells s Ak ck Al cl).toArray, .agg (nodeCells t Bk dk Bl dl).toArray].toArray w0 fun en w' => en = .returned (.bool ((true, m)).1) ∧ Ext (fun k => k = mb) w0 w' ∧ Has w' (Sol xb mb A st ((true, m)).2) := by
  have hE : Ext (fun k => k = mb) w0 w0 := Ext.refl _ _
  have hNC := noCells_map (hL.get 1 rfl)
  refine calls [6] Tryd.func80 rfl rfl rfl rfl ?_
  refine c_seq ?_
  -- region 0
  refine c_ops ?_
  refine l_new rfl rfl rfl (n_box rfl hL hE) ?_
  rintro _ w ⟨b4, rfl, hb4, hL, hE, hX⟩
  refine l_new rfl rfl rfl (n_box rfl hL hE) ?_
  rintro _ w ⟨b5, rfl, hb5, hL, hE, hX⟩
  refine l_val rfl rfl rfl (r_assign rfl) ?_
  refine l_nil ?_
  refine c_seq ?_
  -- region 1
  refine c_ops ?_
  refine l_val rfl rfl rfl (r_assign rfl) ?_
  refine l_nil ?_
  refine c_ret ?_
  exact ⟨rfl, ⟨hE, hL.tail.tail⟩⟩
theorem tag_calls (w0 : World) (xb mb : Nat) (A : Value) (st : Bool) (m : PM) (s t : GNode) (Ak : Option Addr) (ck : Nat) (Al : Option Addr) (cl : Nat) (Bk : Option Addr) (dk : Nat) (Bl : Option Addr) (dl : Nat) (hL : Has w0 (Sol xb mb A st m))
    (hsk : Strs w0 Ak ck s.keys) (hsl : Ints w0 Al cl s.l) (htk : Strs w0 Bk dk t.keys) (htl : Ints w0 Bl dl t.l)  :
    Calls Tryd.prog 81 [.pointer (some ⟨xb, 0, none⟩), .agg (nodeCells s Ak ck Al cl).toArray, .agg (nodeCells t Bk dk Bl dl).toArray].toArray w0 fun en w' => en = .returned (.bool ((decide (s.name = t.name), m)).1) ∧ Ext (fun k => k = mb) w0 w' ∧ Has w' (Sol xb mb A st ((decide (s.name = t.name), m)).2) := by
  have hE : Ext (fun k => k = mb) w0 w0 := Ext.refl _ _
  have hNC := noCells_map (hL.get 1 rfl)
  refine calls [6] Tryd.func81 rfl rfl rfl rfl ?_
  refine c_seq ?_
  -- region 0
  refine c_ops ?_
  refine l_new rfl rfl rfl (n_box rfl hL hE) ?_
  rintro _ w ⟨b4, rfl, hb4, hL, hE, hX⟩
  refine l_new rfl rfl rfl (n_box rfl hL hE) ?_
  rintro _ w ⟨b5, rfl, hb5, hL, hE, hX⟩
  refine l_val rfl rfl rfl (r_assign rfl) ?_
  refine l_nil ?_
  refine c_seq ?_
  -- region 1
  refine c_ops ?_
  refine l_val rfl rfl rfl (r_fieldAddr (n := 0) rfl Tryd.underlying45 rfl Tryd.sizeOf9 rfl) ?_
  refine l_val rfl rfl rfl (r_load_blk rfl Tryd.isAgg9 rfl (hL.get 1 rfl) rfl) ?_
  refine l_val rfl rfl rfl (r_fieldAddr (n := 0) rfl Tryd.underlying45 rfl Tryd.sizeOf9 rfl) ?_
  refine l_val rfl rfl rfl (r_load_blk rfl Tryd.isAgg9 rfl (hL.get 0 rfl) rfl) ?_
  refine l_val rfl rfl rfl (r_seql rfl rfl rfl) ?_
  refine l_val rfl rfl rfl (r_assign rfl) ?_
  refine l_nil ?_
  refine c_ret ?_
  exact ⟨rfl, ⟨hE, hL.tail.tail⟩⟩
theorem variable_calls (w0 : World) (xb mb : Nat) (A : Value) (st : Bool) (m : PM) (s t : GNode) (Ak : Option Addr) (ck : Nat) (Al : Option Addr) (cl : Nat) (Bk : Option Addr) (dk : Nat) (Bl : Option Addr) (dl : Nat) (hL : Has w0 (Sol xb mb A st m))
    (hsk : Strs w0 Ak ck s.keys) (hsl : Ints w0 Al cl s.l) (htk : Strs w0 Bk dk t.keys) (htl : Ints w0 Bl dl t.l) (hs1 : s.l.length = 1) (ht1 : t.l.length = 1) :
    Calls Tryd.prog 83 [.pointer (some ⟨xb, 0, none⟩), .agg (nodeCells s Ak ck Al cl).toArray, .agg (nodeCells t Bk dk Bl dl).toArray].toArray w0 fun en w' => en = .returned (.bool ((if s.num = t.num then grant m (iat s.l 0, iat t.l 0) else (false, m))).1) ∧ Ext (fun k => k = mb) w0 w' ∧ Has w' (Sol xb mb A st ((if s.num = t.num then grant m (iat s.l 0, iat t.l 0) else (false, m))).2) := by
  have hE : Ext (fun k => k = mb) w0 w0 := Ext.refl _ _
  have hNC := noCells_map (hL.get 1 rfl)
  refine calls [6] Tryd.func83 rfl rfl rfl rfl ?_
  refine c_seq ?_
  -- region 0
  refine c_ops ?_
  refine l_new rfl rfl rfl (n_box rfl hL hE) ?_
  rintro _ w ⟨b4, rfl, hb4, hL, hE, hX⟩
  refine l_new rfl rfl rfl (n_box rfl hL hE) ?_
  rintro _ w ⟨b5, rfl, hb5, hL, hE, hX⟩
  refine l_val rfl rfl rfl (r_assign rfl) ?_
  refine l_nil ?_
  refine c_seq ?_
  -- region 1
  refine c_draw mixed (hL.sub (.cons_cons _ (.cons_cons _ (.cons_cons _ (.cons _ .slnil))))) hE ?_
  replace hL := hL.drew
  replace hE := hE.drew
  have hK := hL.sub (.cons_cons _ (.cons_cons _ (.cons_cons _ (.cons _ .slnil))))
  refine h_t 0 rfl rfl (by kernel_rfl) (fun _ _ _ h => h) ⟨hK, hE⟩ rfl (fun W hW => r_fieldAddr (n := 0) rfl Tryd.underlying45 rfl Tryd.sizeOf3 rfl) ?_
  refine h_t 1 rfl rfl (by kernel_rfl) (fun _ _ _ h => h) ⟨hK, hE⟩ rfl (fun W hW => r_load_blk rfl Tryd.isAgg3 rfl (hW.1.get 1 rfl) rfl) ?_
  refine h_t 2 rfl rfl (by kernel_rfl) (fun _ _ _ h => h) ⟨hK, hE⟩ rfl (fun W hW => r_fieldAddr (n := 0) rfl Tryd.underlying45 rfl Tryd.sizeOf3 rfl) ?_
  refine h_t 3 rfl rfl (by kernel_rfl) (fun _ _ _ h => h) ⟨hK, hE⟩ rfl (fun W hW => r_load_blk rfl Tryd.isAgg3 rfl (hW.1.get 0 rfl) rfl) ?_
  refine h_t 4 rfl rfl (by kernel_rfl) (fun _ _ _ h => h) ⟨hK, hE⟩ rfl (fun W hW => r_eql rfl rfl rfl) ?_
  refine h_t 5 rfl rfl (by kernel_rfl) (fun _ _ _ h => h) ⟨hK, hE⟩ rfl (fun W hW => r_move rfl) ?_
  refine h_case 12 rfl (fun hb => ?_) (fun hb => ?_)
  · -- slot 12 is True
    have hr12 := hb
    replace hb := of_decide_eq_true hb
    rw [if_pos hb]
    refine h_t 6 rfl rfl (by kernel_rfl) (fun _ _ _ h => h) ⟨hK, hE⟩ rfl (fun W hW => r_move rfl) ?_
    refine h_t 7 rfl rfl (by kernel_rfl) (fun _ _ _ h => h) ⟨hK, hE⟩ rfl (fun W hW => r_fieldAddr (n := 0) rfl Tryd.underlying45 rfl Tryd.sizeOf30 rfl) ?_
    refine h_t 8 rfl rfl (by kernel_rfl) (fun _ _ _ h => h) ⟨hK, hE⟩ rfl (fun W hW => r_load_blk rfl Tryd.isAgg30 rfl (hW.1.get 1 rfl) rfl) ?_
    refine h_t 9 rfl rfl (by kernel_rfl) (fun _ _ _ h => h) ⟨hK, hE⟩ rfl (fun W hW => r_indexAddr_sl rfl Tryd.underlying30 Tryd.sizeOf3 rfl hsl.is rfl (by decide) (by omega)) ?_
    refine h_t 10 rfl rfl (by kernel_rfl) (fun _ _ _ h => h) ⟨hK, hE⟩ rfl (fun W hW => r_load rfl Tryd.isAgg3 rfl ((hsl.keep RInt.kept ((hW.2).cells hNC)).int 0 (by decide) (by omega))) ?_
    refine h_t 11 rfl rfl (by kernel_rfl) (fun _ _ _ h => h) ⟨hK, hE⟩ rfl (fun W hW => r_fieldAddr (n := 0) rfl Tryd.underlying45 rfl Tryd.sizeOf30 rfl) ?_
    refine h_t 12 rfl rfl (by kernel_rfl) (fun _ _ _ h => h) ⟨hK, hE⟩ rfl (fun W hW => r_load_blk rfl Tryd.isAgg30 rfl (hW.1.get 0 rfl) rfl) ?_
    refine h_t 13 rfl rfl (by kernel_rfl) (fun _ _ _ h => h) ⟨hK, hE⟩ rfl (fun W hW => r_indexAddr_sl rfl Tryd.underlying30 Tryd.sizeOf3 rfl htl.is rfl (by decide) (by omega)) ?_
    refine h_t 14 rfl rfl (by kernel_rfl) (fun _ _ _ h => h) ⟨hK, hE⟩ rfl (fun W hW => r_load rfl Tryd.isAgg3 rfl ((htl.keep RInt.kept ((hW.2).cells hNC)).int 0 (by decide) (by omega))) ?_
    refine h_t 15 rfl rfl (by kernel_rfl) (fun _ _ _ h => h) ⟨hK, hE⟩ rfl (fun W hW => r_build rfl rfl (built_pair _ _)) ?_   -- sub.go:28 slot 22 := (build 62 [(0, (tmp 17)), (1, (tmp 21))])
    refine h_by 16 rfl rfl (by kernel_rfl) rfl (r_call rfl rfl Tryd.func53 rfl rfl) (granted_calls _ xb mb A st _ (iat s.l 0, iat t.l 0) (Has.right (L1 := [_, _]) hL)) ?_   -- sub.go:28 slot 23 := (call {callee=(value (func 53)), args=[(tmp 13), (tmp 22)], argTypes=[82, 62]})
    rintro _ w ⟨rfl, hX, hY⟩
    replace hL := Has.sol [_, _] hL hX hY
    replace hE := hE.trans hX
    have hK := hL.sub (.cons_cons _ (.cons_cons _ (.cons_cons _ (.cons _ .slnil))))
    refine ⟨_, rfl, ⟨hK, hE⟩, ?_⟩
    refine h_t 17 rfl rfl (by kernel_rfl) (fun _ _ _ h => h) ⟨hK, hE⟩ rfl (fun W hW => r_pick rfl rfl) ?_
    refine h_t 18 rfl rfl (by kernel_rfl) (fun _ _ _ h => h) ⟨hK, hE⟩ rfl (fun W hW => r_assign rfl) ?_
    refine h_done (by kernel_rfl) ?_
    refine c_ret ?_
    exact ⟨rfl, ⟨hE, hL.tail.tail⟩⟩
  · -- slot 12 is False
    have hr12 := hb
    replace hb := of_decide_eq_false hb
    rw [if_neg hb]
    refine h_n 6 rfl rfl (by kernel_rfl) (fun _ _ _ h => h) ⟨hK, hE⟩ rfl ?_
    refine h_n 7 rfl rfl (by kernel_rfl) (fun _ _ _ h => h) ⟨hK, hE⟩ rfl ?_
    refine h_n 8 rfl rfl (by kernel_rfl) (fun _ _ _ h => h) ⟨hK, hE⟩ rfl ?_
    refine h_n 9 rfl rfl (by kernel_rfl) (fun _ _ _ h => h) ⟨hK, hE⟩ rfl ?_
    refine h_n 10 rfl rfl (by kernel_rfl) (fun _ _ _ h => h) ⟨hK, hE⟩ rfl ?_
    refine h_n 11 rfl rfl (by kernel_rfl) (fun _ _ _ h => h) ⟨hK, hE⟩ rfl ?_
    refine h_n 12 rfl rfl (by kernel_rfl) (fun _ _ _ h => h) ⟨hK, hE⟩ rfl ?_
    refine h_n 13 rfl rfl (by kernel_rfl) (fun _ _ _ h => h) ⟨hK, hE⟩ rfl ?_
    refine h_n 14 rfl rfl (by kernel_rfl) (fun _ _ _ h => h) ⟨hK, hE⟩ rfl ?_
    refine h_n 15 rfl rfl (by kernel_rfl) (fun _ _ _ h => h) ⟨hK, hE⟩ rfl ?_
    refine h_n 16 rfl rfl (by kernel_rfl) (fun _ _ _ h => h) ⟨hK, hE⟩ rfl ?_
    refine h_t 17 rfl rfl (by kernel_rfl) (fun _ _ _ h => h) ⟨hK, hE⟩ rfl (fun W hW => r_pick rfl rfl) ?_
    refine h_t 18 rfl rfl (by kernel_rfl) (fun _ _ _ h => h) ⟨hK, hE⟩ rfl (fun W hW => r_assign rfl) ?_
    refine h_done (by kernel_rfl) ?_
    refine c_ret ?_
    exact ⟨rfl, ⟨hE, hL.tail.tail⟩⟩
theorem zip_at {s : List ByteArray} {l : List Int} {k : Nat} {key : ByteArray} {x : Int} (h1 : s[k]? = some key) (h2 : l[k]? = some x) : (s.zip l).drop k = (key, x) :: (s.zip l).drop (k + 1) := by
  have hk1 := (List.getElem?_eq_some_iff.1 h1).1
  have hk2 := (List.getElem?_eq_some_iff.1 h2).1
  have hk : k < (s.zip l).length := by simp; omega
  rw [List.drop_eq_getElem_cons hk]
  have e1 := (List.getElem?_eq_some_iff.1 h1).2
  have e2 := (List.getElem?_eq_some_iff.1 h2).2
  rw [List.getElem_zip, e1, e2]
theorem iat_nat {l : List Int} {k : Nat} (h : k < l.length) : l[k]? = some (iat l k) := by
  unfold iat
  rw [Int.toNat_natCast, List.getD_eq_getElem?_getD, List.getElem?_eq_getElem h]
  rfl
theorem sat_nat {l : List ByteArray} {k : Nat} (h : k < l.length) : l[k]? = some (l.getD (k : Int).toNat ByteArray.empty) := by
  rw [Int.toNat_natCast, List.getD_eq_getElem?_getD, List.getElem?_eq_getElem h]
  rfl
theorem recM_step (s : GNode) (m : PM) {ks : List ByteArray} {l : List Int} {k : Nat} {key : ByteArray} {x : Int} (h1 : ks[k]? = some key) (h2 : l[k]? = some x) : recM s m ((ks.zip l).drop k) = if idxV (idxS s.keys key) < 0 then (false, m) else if (grant m (iat s.l (idxV (idxS s.keys key)), x)).1 then recM s (grant m (iat s.l (idxV (idxS s.keys key)), x)).2 ((ks.zip l).drop (k + 1)) else (false, (grant m (iat s.l (idxV (idxS s.keys key)), x)).2) := by
  rw [zip_at h1 h2, recM]
theorem idxS_lt (l : List ByteArray) (s : ByteArray) : idxV (idxS l s) < l.length := idxV_lt fun i h => by
  have := (findS_lt _ 0 () l i h).2
  omega
theorem record_calls (w0 : World) (xb mb : Nat) (A : Value) (st : Bool) (m : PM) (s t : GNode) (Ak : Option Addr) (ck : Nat) (Al : Option Addr) (cl : Nat) (Bk : Option Addr) (dk : Nat) (Bl : Option Addr) (dl : Nat) (hL : Has w0 (Sol xb mb A st m))
    (hsk : Strs w0 Ak ck s.keys) (hsl : Ints w0 Al cl s.l) (htk : Strs w0 Bk dk t.keys) (htl : Ints w0 Bl dl t.l) (hs1 : s.l.length = s.keys.length) (ht1 : t.l.length = t.keys.length) :
    Calls Tryd.prog 82 [.pointer (some ⟨xb, 0, none⟩), .agg (nodeCells s Ak ck Al cl).toArray, .agg (nodeCells t Bk dk Bl dl).toArray].toArray w0 fun en w' => en = .returned (.bool (recM s m (t.keys.zip t.l)).1) ∧ Ext (fun k => k = mb) w0 w' ∧ Has w' (Sol xb mb A st (recM s m (t.keys.zip t.l)).2) := by
  have hE : Ext (fun k => k = mb) w0 w0 := Ext.refl _ _
  have hNC := noCells_map (hL.get 1 rfl)
  refine calls [6] Tryd.func82 rfl rfl rfl rfl ?_
  refine c_seq ?_
  -- region 0
  refine c_ops ?_
  refine l_new rfl rfl rfl (n_box rfl hL hE) ?_
  rintro _ w ⟨b4, rfl, hb4, hL, hE, hX⟩
  refine l_new rfl rfl rfl (n_box rfl hL hE) ?_
  rintro _ w ⟨b5, rfl, hb5, hL, hE, hX⟩
  refine l_val rfl rfl rfl (r_assign rfl) ?_
  refine l_nil ?_
  refine c_seq ?_
  refine c_seq ?_
  -- region 1
  refine c_ops ?_
  refine l_val rfl rfl rfl (r_fieldAddr (n := 0) rfl Tryd.underlying45 rfl Tryd.sizeOf43 rfl) ?_
  refine l_val rfl rfl rfl (r_load_blk rfl Tryd.isAgg43 rfl (hL.get 0 rfl) rfl) ?_
  refine l_val rfl rfl rfl (r_len rfl Tryd.underlying43 rfl) ?_
  refine l_val rfl rfl rfl (r_move rfl) ?_
  refine l_nil ?_
  refine c_block ?_
  -- loop 0: slots that it writes and that are read in it ahead of that: [13]
  refine c_loop [6, 7, 8, 9, 13, 14, 15, 16, 17, 18, 19, 20, 21, 22, 23, 24, 25, 26, 27, 28, 29, 30, 31, 32, 33, 34, 35, 36, 37, 38, 39, 40] (fun m1 e w => ∃ (k : Nat) (m' : PM), k ≤ t.keys.length ∧ m1 = t.keys.length - k ∧ e 13 = .int .i64 k ∧ recM s m (t.keys.zip t.l) = recM s m' ((t.keys.zip t.l).drop k) ∧ Has w ([.blk b5 (.cells (nodeCells t Bk dk Bl dl).toArray 45 (0, 0)), .blk b4 (.cells (nodeCells s Ak ck Al cl).toArray 45 (0, 0))] ++ Sol xb mb A st m') ∧ Ext (fun k => k = mb) w0 w) t.keys.length ?_ ?_
  · exact ⟨0, m, Nat.zero_le _, rfl, rfl, rfl, hL, hE⟩
  intro m1 e w hI
  obtain ⟨k, m', hk, hm, h13, hrec, hL, hE⟩ := hI
  refine c_know h13 ?_
  refine c_seq ?_
  -- region 2
  refine c_ops ?_
  refine l_val rfl rfl rfl (r_lss rfl rfl rfl) ?_
  refine l_nil ?_
  refine c_seq ?_
  refine c_cond rfl (fun hb => ?_) (fun hb => ?_)
  · -- True
    have hr14 := hb
    replace hb := of_decide_eq_true hb
    have hkn : k < t.keys.length := by omega
    obtain ⟨key, hkey⟩ : ∃ key, key = t.keys.getD (k : Int).toNat ByteArray.empty := ⟨_, rfl⟩
    have hstep := recM_step s m' (sat_nat hkn) (iat_nat (show k < t.l.length by omega))
    rw [← hkey] at hstep
    have hlt := idxS_lt s.keys key
    refine c_skip ?_
    refine c_seq ?_
    refine c_block ?_
    refine c_seq ?_
    -- region 3
    refine c_ops ?_
    refine l_val rfl rfl rfl (r_move rfl) ?_
    refine l_val rfl rfl rfl (r_indexAddr_sl rfl Tryd.underlying43 Tryd.sizeOf9 rfl htk.is rfl (by omega) (by omega)) ?_
    refine l_val rfl rfl rfl (r_load (v := .string key) rfl Tryd.isAgg9 rfl (by rw [hkey]; exact (htk.keep RStr.kept ((hE).cells hNC)).str k (by omega) (by omega))) ?_
    refine l_val rfl rfl rfl (r_assign rfl) ?_
    refine l_val rfl rfl rfl (r_assign rfl) ?_
    refine l_nil ?_
    refine c_seq ?_
    -- region 4
    refine c_ops ?_
    refine l_val rfl rfl rfl (r_fieldAddr (n := 0) rfl Tryd.underlying45 rfl Tryd.sizeOf43 rfl) ?_
    refine l_val rfl rfl rfl (r_load_blk rfl Tryd.isAgg43 rfl (hL.get 1 rfl) rfl) ?_
    refine l_val rfl rfl rfl (r_move rfl) ?_
    refine l_by rfl rfl rfl (r_call rfl rfl Tryd.func87 rfl rfl) (Index_str _ _ _ _ s.keys _ (hsk.keep RStr.kept (hE.cells hNC))) ?_   -- sub.go:33 slot 21 := (call {callee=(value (func 87)), args=[(tmp 19), (tmp 20)], argTypes=[43, 9]})
    rintro _ w ⟨rfl, hX⟩
    replace hL := hL.ext0 hX
    replace hE := hE.step0 hX
    refine ⟨_, rfl, ?_⟩
    refine l_val rfl rfl rfl (r_assign rfl) ?_
    refine l_nil ?_
    refine c_seq ?_
    -- region 5
    refine c_draw mixed (hL.sub (.cons_cons _ (.cons_cons _ (.cons_cons _ (.cons _ .slnil))))) hE ?_
    replace hL := hL.drew
    replace hE := hE.drew
    have hK := hL.sub (.cons_cons _ (.cons_cons _ (.cons_cons _ (.cons _ .slnil))))
    refine h_t 0 rfl rfl (by kernel_rfl) (fun _ _ _ h => h) ⟨hK, hE⟩ rfl (fun W hW => r_move rfl) ?_
    refine h_t 1 rfl rfl (by kernel_rfl) (fun _ _ _ h => h) ⟨hK, hE⟩ rfl (fun W hW => r_lss rfl rfl rfl) ?_
    refine h_t 2 rfl rfl (by kernel_rfl) (fun _ _ _ h => h) ⟨hK, hE⟩ rfl (fun W hW => r_move rfl) ?_
    refine h_case 24 rfl (fun hb => ?_) (fun hb => ?_)
    · -- slot 24 is True
      have hr24 := hb
      replace hb := of_decide_eq_true hb
      have hb24 := hb
      refine h_n 3 rfl rfl (by kernel_rfl) (fun _ _ _ h => h) ⟨hK, hE⟩ rfl ?_
      refine h_n 4 rfl rfl (by kernel_rfl) (fun _ _ _ h => h) ⟨hK, hE⟩ rfl ?_
      refine h_n 5 rfl rfl (by kernel_rfl) (fun _ _ _ h => h) ⟨hK, hE⟩ rfl ?_
      refine h_n 6 rfl rfl (by kernel_rfl) (fun _ _ _ h => h) ⟨hK, hE⟩ rfl ?_
      refine h_n 7 rfl rfl (by kernel_rfl) (fun _ _ _ h => h) ⟨hK, hE⟩ rfl ?_
      refine h_n 8 rfl rfl (by kernel_rfl) (fun _ _ _ h => h) ⟨hK, hE⟩ rfl ?_
      refine h_n 9 rfl rfl (by kernel_rfl) (fun _ _ _ h => h) ⟨hK, hE⟩ rfl ?_
      refine h_n 10 rfl rfl (by kernel_rfl) (fun _ _ _ h => h) ⟨hK, hE⟩ rfl ?_
      refine h_n 11 rfl rfl (by kernel_rfl) (fun _ _ _ h => h) ⟨hK, hE⟩ rfl ?_
      refine h_n 12 rfl rfl (by kernel_rfl) (fun _ _ _ h => h) ⟨hK, hE⟩ rfl ?_
      refine h_n 13 rfl rfl (by kernel_rfl) (fun _ _ _ h => h) ⟨hK, hE⟩ rfl ?_
      refine h_n 14 rfl rfl (by kernel_rfl) (fun _ _ _ h => h) ⟨hK, hE⟩ rfl ?_
      refine h_n 15 rfl rfl (by kernel_rfl) (fun _ _ _ h => h) ⟨hK, hE⟩ rfl ?_
      refine h_n 16 rfl rfl (by kernel_rfl) (fun _ _ _ h => h) ⟨hK, hE⟩ rfl ?_
      refine h_t 17 rfl rfl (by kernel_rfl) (fun _ _ _ h => h) ⟨hK, hE⟩ rfl (fun W hW => r_pick rfl rfl) ?_
      refine h_done (by kernel_rfl) ?_
      refine c_yes rfl ?_
      refine c_seq ?_
      -- region 6
      refine c_ops ?_
      refine l_val rfl rfl rfl (r_assign rfl) ?_
      refine l_nil ?_
      refine c_ret ?_
      exact ⟨ret_bool rfl (by rw [hrec, hstep, if_pos hb24]), hE, by rw [hrec, hstep, if_pos hb24]; exact hL.right⟩
    · -- slot 24 is False
      have hr24 := hb
      replace hb := of_decide_eq_false hb
      have hb24 := hb
      refine h_t 3 rfl rfl (by kernel_rfl) (fun _ _ _ h => h) ⟨hK, hE⟩ rfl (fun W hW => r_move rfl) ?_
      refine h_t 4 rfl rfl (by kernel_rfl) (fun _ _ _ h => h) ⟨hK, hE⟩ rfl (fun W hW => r_fieldAddr (n := 0) rfl Tryd.underlying45 rfl Tryd.sizeOf30 rfl) ?_
      refine h_t 5 rfl rfl (by kernel_rfl) (fun _ _ _ h => h) ⟨hK, hE⟩ rfl (fun W hW => r_load_blk rfl Tryd.isAgg30 rfl (hW.1.get 1 rfl) rfl) ?_
      refine h_t 6 rfl rfl (by kernel_rfl) (fun _ _ _ h => h) ⟨hK, hE⟩ rfl (fun W hW => r_move rfl) ?_
      refine h_t 7 rfl rfl (by kernel_rfl) (fun _ _ _ h => h) ⟨hK, hE⟩ rfl (fun W hW => r_indexAddr_sl rfl Tryd.underlying30 Tryd.sizeOf3 rfl hsl.is rfl (by omega) (by omega)) ?_
      refine h_t 8 rfl rfl (by kernel_rfl) (fun _ _ _ h => h) ⟨hK, hE⟩ rfl (fun W hW => r_load rfl Tryd.isAgg3 rfl ((hsl.keep RInt.kept ((hW.2).cells hNC)).int _ (by omega) (by omega))) ?_
      refine h_t 9 rfl rfl (by kernel_rfl) (fun _ _ _ h => h) ⟨hK, hE⟩ rfl (fun W hW => r_fieldAddr (n := 0) rfl Tryd.underlying45 rfl Tryd.sizeOf30 rfl) ?_
      refine h_t 10 rfl rfl (by kernel_rfl) (fun _ _ _ h => h) ⟨hK, hE⟩ rfl (fun W hW => r_load_blk rfl Tryd.isAgg30 rfl (hW.1.get 0 rfl) rfl) ?_
      refine h_t 11 rfl rfl (by kernel_rfl) (fun _ _ _ h => h) ⟨hK, hE⟩ rfl (fun W hW => r_move rfl) ?_
      refine h_t 12 rfl rfl (by kernel_rfl) (fun _ _ _ h => h) ⟨hK, hE⟩ rfl (fun W hW => r_indexAddr_sl rfl Tryd.underlying30 Tryd.sizeOf3 rfl htl.is rfl (by omega) (by omega)) ?_
      refine h_t 13 rfl rfl (by kernel_rfl) (fun _ _ _ h => h) ⟨hK, hE⟩ rfl (fun W hW => r_load rfl Tryd.isAgg3 rfl ((htl.keep RInt.kept ((hW.2).cells hNC)).int _ (by omega) (by omega))) ?_
      refine h_t 14 rfl rfl (by kernel_rfl) (fun _ _ _ h => h) ⟨hK, hE⟩ rfl (fun W hW => r_build rfl rfl (built_pair _ _)) ?_   -- sub.go:34 slot 36 := (build 62 [(0, (tmp 30)), (1, (tmp 35))])
      refine h_by 15 rfl rfl (by kernel_rfl) rfl (r_call rfl rfl Tryd.func53 rfl rfl) (granted_calls _ xb mb A st _ (iat s.l (idxV (idxS s.keys key)), iat t.l k) (Has.right (L1 := [_, _]) hL)) ?_   -- sub.go:34 slot 37 := (call {callee=(value (func 53)), args=[(tmp 25), (tmp 36)], argTypes=[82, 62]})
      rintro _ w ⟨rfl, hX, hY⟩
      replace hL := Has.sol [_, _] hL hX hY
      replace hE := hE.trans hX
      have hK := hL.sub (.cons_cons _ (.cons_cons _ (.cons_cons _ (.cons _ .slnil))))
      refine ⟨_, rfl, ⟨hK, hE⟩, ?_⟩
      refine h_t 16 rfl rfl (by kernel_rfl) (fun _ _ _ h => h) ⟨hK, hE⟩ rfl (fun W hW => r_not rfl rfl) ?_
      refine h_t 17 rfl rfl (by kernel_rfl) (fun _ _ _ h => h) ⟨hK, hE⟩ rfl (fun W hW => r_pick rfl rfl) ?_
      refine h_done (by kernel_rfl) ?_
      refine c_cond rfl (fun hb => ?_) (fun hb => ?_)
      · -- True
        have hr39 := hb
        refine c_seq ?_
        -- region 6
        refine c_ops ?_
        refine l_val rfl rfl rfl (r_assign rfl) ?_
        refine l_nil ?_
        refine c_ret ?_
        exact ⟨ret_bool rfl (by rw [hrec, hstep, if_neg hb24, if_neg (by simpa using hb)]), hE, by rw [hrec, hstep, if_neg hb24, if_neg (by simpa using hb)]; exact hL.right⟩
      · -- False
        have hr39 := hb
        have hrec2 : recM s m (t.keys.zip t.l) = recM s (grant m' (iat s.l (idxV (idxS s.keys key)), iat t.l k)).2 ((t.keys.zip t.l).drop (k + 1)) := by
          rw [hrec, hstep, if_neg hb24, if_pos (by simpa using hb)]
        refine c_skip ?_
        -- region 7
        refine c_ops ?_
        refine l_val rfl rfl rfl (r_add rfl rfl rfl) ?_
        refine l_val rfl rfl rfl (r_move rfl) ?_
        refine l_nil ?_
        refine ⟨by repeat (first | exact Agree.over _ _ _ | exact Agree.refl _ _ | (refine Agree.puto ?_ _ _ rfl) | (refine Agree.put ?_ _ _ rfl) | (refine Agree.sub ?_ rfl)), ?_⟩
        exact ⟨t.keys.length - (k + 1), by omega, k + 1, _, by omega, rfl, by show Value.int .i64 (IntKind.i64.wrap ((k : Int) + 1)) = _; rw [wrap_succ hkn htk.max], hrec2, hL, hE⟩
  · -- False
    have hr14 := hb
    replace hb := of_decide_eq_false hb
    have hkn : t.keys.length ≤ k := by omega
    refine c_exit ?_
    refine c_seq ?_
    -- region 8
    refine c_ops ?_
    refine l_val rfl rfl rfl (r_assign rfl) ?_
    refine l_nil ?_
    refine c_ret ?_
    exact ⟨ret_bool rfl (by rw [hrec, List.drop_eq_nil_of_le (by simp; omega)]; rfl), hE, by rw [hrec, List.drop_eq_nil_of_le (by simp; omega)]; exact hL.right⟩
end Go.Proofs.YtndophlnapjkhaaDoor.Vc
