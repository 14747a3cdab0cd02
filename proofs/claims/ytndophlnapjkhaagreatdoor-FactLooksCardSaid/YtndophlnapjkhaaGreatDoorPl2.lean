/- Laws and walks for what the last text proves, part 2: FactLooks of the layer 'fact'. Conditions: those of each statement. -/
import Derived.Laws.StructEq
import Derived.Scope
import Derived.Laws.MakeOwn
import Derived.Laws.OwnMore
import Derived.Test.YtndophlnapjkhaaGreatDoorPl1
set_option linter.unusedVariables false
set_option linter.unusedSimpArgs false
set_option linter.unusedSectionVars false
namespace Go.Proofs.YtndophlnapjkhaaGreatDoor.Vc
open Go Go.RowKit
set_option linter.unusedVariables false
set_option linter.unusedSimpArgs false
theorem eq_pair (a b c d : Int) (w : World) : (Op.equalIn 10000 87 (.agg #[.int .i64 a, .int .i64 b]) (.agg #[.int .i64 c, .int .i64 d])).run Tryz.prog w = .ok (decide (a = c) && decide (b = d)) w := by
  have u3 := Tryz.underlying3
  have a3 := Tryz.isAgg3
  have z3 := Tryz.sizeOf3
  have hS : Tryz.prog.underlying 87 = some (.struct (Tryz.prog.fieldsOf 87)) := by kernel_rfl
  have hp : Tryz.prog.stoodInHeld 87 = false := by kernel_rfl
  rw [show (10000 : Nat) = 9999 + 1 from rfl, run_equalIn_agg w 9999 87 _ _ hS hp]
  simp only [Program.fieldsOf, Tryz.underlying87]
  go_simp
  by_cases h1 : a = c <;> by_cases h2 : b = d <;> simp [h1, h2]
theorem key_pair : KeyLaw Tryz.prog 87 enc2 := KeyLaw.pair (fun a b c d w => eq_pair a b c d w) (by
  intro e a b w
  have u3 := Tryz.underlying3
  have a3 := Tryz.isAgg3
  have z3 := Tryz.sizeOf3
  have hint : ∀ d v w, (Instr.checkKey e (d + 1) 3 (.int .i64 v)).run Tryz.prog w = .ok () w := fun d v w => by
    rw [Instr.checkKey]
    simp [run_underlying u3]
  have hall : ∀ d, (Instr.checkKey e (d + 1 + 1) 87 (.agg #[.int .i64 a, .int .i64 b])).run Tryz.prog w = .ok () w := fun d => by
    rw [Instr.checkKey]
    simp only [Sem.run_bind, run_underlying Tryz.underlying87, Result.andThen_ok]
    go_simp
    all_goals simp [hint]
  exact hall 9998) Tryz.underlying87
abbrev PM : Type := List ((Int × Int) × Int)
def grant (m : PM) (p : Int × Int) : Bool × PM :=
  match getM m p with
  | none => (true, setM m p 1)
  | some n => (decide (0 < n), m)
def idxS (l : List ByteArray) (s : ByteArray) : Option Nat := (findS (fun (_ : Unit) x => (decide (s = x), ())) 0 () l).1
def recM (s : GNode) : PM → List (ByteArray × Int) → Bool × PM
  | m, [] => (true, m)
  | m, (key, tl) :: r => if idxV (idxS s.keys key) < 0 then (false, m) else if (grant m (iat s.l (idxV (idxS s.keys key)), tl)).1 then recM s (grant m (iat s.l (idxV (idxS s.keys key)), tl)).2 r else (false, (grant m (iat s.l (idxV (idxS s.keys key)), tl)).2)
def ruleM (m : PM) (s t : GNode) : Bool × PM :=
  if s.kind = 5 then (decide (s.name = t.name), m) else if s.kind = 7 then recM s m (t.keys.zip t.l) else if s.kind = 9 then (if s.num = t.num then grant m (iat s.l 0, iat t.l 0) else (false, m)) else (true, m)
def doesM (st : Bool) (m : PM) (s t : GNode) : Bool × PM := if s.kind = 1 ∨ t.kind = 1 then (!st || decide (s.kind = t.kind), m) else if s.kind = t.kind then ruleM m s t else (false, m)
def pickM (g : List GNode) (st : Bool) (m : PM) (a b : Int) : Int × PM :=
  match findS (fun m k => doesM st m (gat g a) (gat g k)) 0 m (membersG g b) with
  | (some i, m') => ((i : Int), m')
  | (none, m') => if (gat g a).kind = 9 then (if (grant m' (iat (gat g a).l 0, b)).1 then (-1, (grant m' (iat (gat g a).l 0, b)).2) else (-2, (grant m' (iat (gat g a).l 0, b)).2)) else (-2, m')
def holdsM (g : List GNode) (st : Bool) (m : PM) (p : Int × Int) : Bool × PM :=
  let r := findS (fun m s => (decide ((pickM g st m s p.2).1 = -2), (pickM g st m s p.2).2)) 0 m (membersG g p.1)
  (!r.1.isSome, r.2)
def solB (A : Value) (st : Bool) (mb : Nat) : Obj := .cells #[A, .bool st, .map (some mb)] 111 (0, 0)
abbrev Sol (xb mb : Nat) (A : Value) (st : Bool) (m : PM) : List Res := [.blk xb (solB A st mb), .blk mb (mapObj enc2 (Value.int .i64) m)]
theorem Has.sol {w w' : World} {xb mb : Nat} {A : Value} {st : Bool} {m m' : PM} (L1 : List Res) (h : Has w (L1 ++ Sol xb mb A st m)) (hE : Ext (fun k => k = mb) w w') (h2 : Has w' (Sol xb mb A st m')) : Has w' (L1 ++ Sol xb mb A st m') :=
  h.frame hE h2 (fun k hk => ⟨_, List.mem_cons_of_mem _ (List.mem_singleton.2 rfl), by rw [hk]; rfl⟩) (fun r hr b hb => by
    refine .inl ?_
    rcases List.mem_cons.1 hr with rfl | hr
    · exact ⟨_, List.mem_cons_self, hb⟩
    · rw [List.mem_singleton] at hr
      subst hr
      exact ⟨_, List.mem_cons_of_mem _ (List.mem_singleton.2 rfl), hb⟩)
theorem built_pair (a b : Int) : Tryz.prog.built 87 [(0, .int .i64 a), (1, .int .i64 b)] = some #[.int .i64 a, .int .i64 b] := by kernel_rfl
theorem granted_calls (w0 : World) (xb mb : Nat) (A : Value) (st : Bool) (m : PM) (p : Int × Int) (hL : Has w0 (Sol xb mb A st m)) :
    Calls Tryz.prog 91 [.pointer (some ⟨xb, 0, none⟩), enc2 p].toArray w0 fun en w' => en = .returned (.bool (grant m p).1) ∧ Ext (fun k => k = mb) w0 w' ∧ Has w' (Sol xb mb A st (grant m p).2) := by
  have hE : Ext (fun k => k = mb) w0 w0 := Ext.refl _ _
  unfold grant
  cases hg : getM m p with
  | none =>
  refine calls [4] Tryz.func91 rfl rfl rfl rfl ?_
  refine c_seq ?_
  refine c_ops ?_
  refine l_new rfl rfl rfl (n_box rfl hL hE) ?_
  rintro _ w ⟨b3, rfl, hb3, hL, hE, hX⟩
  refine l_val rfl rfl rfl (r_assign rfl) ?_
  refine l_nil ?_
  refine c_seq ?_
  refine c_draw mixed (hL) hE ?_
  replace hL := hL.drew
  replace hE := hE.drew
  have hK := hL
  refine h_t 0 rfl rfl (by kernel_rfl) (fun _ _ _ h => h) ⟨hK, hE⟩ rfl (fun W hW => r_move rfl) ?_
  refine h_t 1 rfl rfl (by kernel_rfl) (fun _ _ _ h => h) ⟨hK, hE⟩ rfl (fun W hW => r_nilCheck rfl rfl) ?_
  refine h_t 2 rfl rfl (by kernel_rfl) (fun _ _ _ h => h) ⟨hK, hE⟩ rfl (fun W hW => r_fieldAddr (n := 0) rfl Tryz.underlying111 rfl Tryz.sizeOf109 rfl) ?_
  refine h_t 3 rfl rfl (by kernel_rfl) (fun _ _ _ h => h) ⟨hK, hE⟩ rfl (fun W hW => r_load_blk rfl Tryz.isAgg109 rfl (hW.1.get 1 rfl) rfl) ?_
  refine h_t 4 rfl rfl (by kernel_rfl) (fun _ _ _ h => h) ⟨hK, hE⟩ rfl (fun W hW => r_load_blk_agg rfl Tryz.isAgg87 Tryz.sizeOf87 rfl (hW.1.get 0 rfl) rfl) ?_
  refine h_t 5 rfl rfl (by kernel_rfl) (fun _ _ _ h => h) ⟨hK, hE⟩ rfl (fun W hW => r_lookup_ok_none (k := p) rfl Tryz.underlying109 key_pair Tryz.zeroValue3 rfl rfl (hW.1.get 2 rfl) hg) ?_
  refine h_t 6 rfl rfl (by kernel_rfl) (fun _ _ _ h => h) ⟨hK, hE⟩ rfl (fun W hW => r_move rfl) ?_
  refine h_t 7 rfl rfl (by kernel_rfl) (fun _ _ _ h => h) ⟨hK, hE⟩ rfl (fun W hW => r_extract rfl rfl rfl) ?_
  refine h_t 8 rfl rfl (by kernel_rfl) (fun _ _ _ h => h) ⟨hK, hE⟩ rfl (fun W hW => r_extract rfl rfl rfl) ?_
  refine h_t 9 rfl rfl (by kernel_rfl) (fun _ _ _ h => h) ⟨hK, hE⟩ rfl (fun W hW => r_assign rfl) ?_
  refine h_t 10 rfl rfl (by kernel_rfl) (fun _ _ _ h => h) ⟨hK, hE⟩ rfl (fun W hW => r_assign rfl) ?_
  refine h_done (by kernel_rfl) ?_
  refine c_seq ?_
  refine c_seq ?_
  refine c_ops ?_
  refine l_val rfl rfl rfl (r_move rfl) ?_
  refine l_val rfl rfl rfl (r_not rfl rfl) ?_
  refine l_nil ?_
  refine c_yes rfl ?_
  refine c_seq ?_
  refine c_draw mixed (hL.sub (.cons_cons _ (.cons_cons _ (.cons _ .slnil)))) hE ?_
  replace hL := hL.drew
  replace hE := hE.drew
  have hK := hL.sub (.cons_cons _ (.cons_cons _ (.cons _ .slnil)))
  refine h_t 0 rfl rfl (by kernel_rfl) (fun _ _ _ h => h) ⟨hK, hE⟩ rfl (fun W hW => r_move rfl) ?_
  refine h_t 1 rfl rfl (by kernel_rfl) (fun _ _ _ h => h) ⟨hK, hE⟩ rfl (fun W hW => r_nilCheck rfl rfl) ?_
  refine h_t 2 rfl rfl (by kernel_rfl) (fun _ _ _ h => h) ⟨hK, hE⟩ rfl (fun W hW => r_fieldAddr (n := 0) rfl Tryz.underlying111 rfl Tryz.sizeOf109 rfl) ?_
  refine h_t 3 rfl rfl (by kernel_rfl) (fun _ _ _ h => h) ⟨hK, hE⟩ rfl (fun W hW => r_load_blk rfl Tryz.isAgg109 rfl (hW.1.get 1 rfl) rfl) ?_
  refine h_t 4 rfl rfl (by kernel_rfl) (fun _ _ _ h => h) ⟨hK, hE⟩ rfl (fun W hW => r_load_blk_agg rfl Tryz.isAgg87 Tryz.sizeOf87 rfl (hW.1.get 0 rfl) rfl) ?_
  refine h_new_do 5 rfl rfl (by kernel_rfl) rfl (r_mapUpdate (k := p) (v := (1 : Int)) 2 rfl Tryz.underlying109 key_pair rfl rfl rfl hL hE rfl (fun _ => rfl)) ?_
  rintro w ⟨hL, hE, hz, hk⟩
  have hK := hL.sub (.cons_cons _ (.cons_cons _ (.cons _ .slnil)))
  refine ⟨⟨hK, hE⟩, ?_⟩
  refine h_done (by kernel_rfl) ?_
  refine c_seq ?_
  refine c_ops ?_
  refine l_val rfl rfl rfl (r_assign rfl) ?_
  refine l_nil ?_
  refine c_ret ?_
  exact ⟨rfl, ⟨hE, hL.tail⟩⟩
  | some n =>
  refine calls [4] Tryz.func91 rfl rfl rfl rfl ?_
  refine c_seq ?_
  refine c_ops ?_
  refine l_new rfl rfl rfl (n_box rfl hL hE) ?_
  rintro _ w ⟨b3, rfl, hb3, hL, hE, hX⟩
  refine l_val rfl rfl rfl (r_assign rfl) ?_
  refine l_nil ?_
  refine c_seq ?_
  refine c_draw mixed (hL) hE ?_
  replace hL := hL.drew
  replace hE := hE.drew
  have hK := hL
  refine h_t 0 rfl rfl (by kernel_rfl) (fun _ _ _ h => h) ⟨hK, hE⟩ rfl (fun W hW => r_move rfl) ?_
  refine h_t 1 rfl rfl (by kernel_rfl) (fun _ _ _ h => h) ⟨hK, hE⟩ rfl (fun W hW => r_nilCheck rfl rfl) ?_
  refine h_t 2 rfl rfl (by kernel_rfl) (fun _ _ _ h => h) ⟨hK, hE⟩ rfl (fun W hW => r_fieldAddr (n := 0) rfl Tryz.underlying111 rfl Tryz.sizeOf109 rfl) ?_
  refine h_t 3 rfl rfl (by kernel_rfl) (fun _ _ _ h => h) ⟨hK, hE⟩ rfl (fun W hW => r_load_blk rfl Tryz.isAgg109 rfl (hW.1.get 1 rfl) rfl) ?_
  refine h_t 4 rfl rfl (by kernel_rfl) (fun _ _ _ h => h) ⟨hK, hE⟩ rfl (fun W hW => r_load_blk_agg rfl Tryz.isAgg87 Tryz.sizeOf87 rfl (hW.1.get 0 rfl) rfl) ?_
  refine h_t 5 rfl rfl (by kernel_rfl) (fun _ _ _ h => h) ⟨hK, hE⟩ rfl (fun W hW => r_lookup_ok_some (k := p) rfl Tryz.underlying109 key_pair Tryz.zeroValue3 rfl rfl (hW.1.get 2 rfl) hg) ?_
  refine h_t 6 rfl rfl (by kernel_rfl) (fun _ _ _ h => h) ⟨hK, hE⟩ rfl (fun W hW => r_move rfl) ?_
  refine h_t 7 rfl rfl (by kernel_rfl) (fun _ _ _ h => h) ⟨hK, hE⟩ rfl (fun W hW => r_extract rfl rfl rfl) ?_
  refine h_t 8 rfl rfl (by kernel_rfl) (fun _ _ _ h => h) ⟨hK, hE⟩ rfl (fun W hW => r_extract rfl rfl rfl) ?_
  refine h_t 9 rfl rfl (by kernel_rfl) (fun _ _ _ h => h) ⟨hK, hE⟩ rfl (fun W hW => r_assign rfl) ?_
  refine h_t 10 rfl rfl (by kernel_rfl) (fun _ _ _ h => h) ⟨hK, hE⟩ rfl (fun W hW => r_assign rfl) ?_
  refine h_done (by kernel_rfl) ?_
  refine c_seq ?_
  refine c_seq ?_
  refine c_ops ?_
  refine l_val rfl rfl rfl (r_move rfl) ?_
  refine l_val rfl rfl rfl (r_not rfl rfl) ?_
  refine l_nil ?_
  refine c_no rfl ?_
  refine c_skip ?_
  refine c_seq ?_
  refine c_ops ?_
  refine l_val rfl rfl rfl (r_move rfl) ?_
  refine l_val rfl rfl rfl (r_gtr rfl rfl rfl) ?_
  refine l_val rfl rfl rfl (r_assign rfl) ?_
  refine l_nil ?_
  refine c_ret ?_
  exact ⟨rfl, ⟨hE, hL.tail⟩⟩
theorem Index_str (w0 : World) (A : Option Addr) (n c : Nat) (xs : List ByteArray) (s : ByteArray) (hx : Sl w0 1 RStr A n c xs) :
    Calls Tryz.prog 117 [.slice A n c, .string s].toArray w0 fun en w' => en = .returned (.int .i64 (idxV (idxS xs s))) ∧ Ext0 w0 w' := by
  have hE : Ext0 w0 w0 := Ext.refl _ _
  have hlen : xs.length = n := hx.len
  have hmax := hx.max
  have hsome := hx.is
  unfold idxS
  refine calls [4] Tryz.func117 rfl rfl rfl rfl ?_
  refine c_seq ?_
  refine c_ops ?_
  refine l_val rfl rfl rfl (r_assign rfl) ?_
  refine l_nil ?_
  refine c_seq ?_
  refine c_seq ?_
  refine c_ops ?_
  refine l_val rfl rfl rfl (r_move rfl) ?_
  refine l_val rfl rfl rfl (r_len rfl Tryz.underlying44 rfl) ?_
  refine l_val rfl rfl rfl (r_move rfl) ?_
  refine l_nil ?_
  refine c_block ?_
  refine c_loop [4, 5, 8, 9, 10, 11, 12, 13, 14, 15, 16, 17, 18] (fun m1 e w => ∃ k : Nat, k ≤ n ∧ m1 = n - k ∧ e 8 = .int .i64 k ∧ findS (fun (_ : Unit) x => (decide (s = x), ())) 0 () xs = findS (fun (_ : Unit) x => (decide (s = x), ())) k () (xs.drop k) ∧ Ext0 w0 w) n ?_ ?_
  · exact ⟨0, Nat.zero_le _, rfl, rfl, rfl, hE⟩
  intro m1 e w hI
  obtain ⟨k, hk, hm, h8, hfind, hE⟩ := hI
  refine c_know h8 ?_
  refine c_seq ?_
  refine c_ops ?_
  refine l_val rfl rfl rfl (r_lss rfl rfl rfl) ?_
  refine l_nil ?_
  refine c_seq ?_
  refine c_cond rfl (fun hb => ?_) (fun hb => ?_)
  · have hr9 := hb
    replace hb := of_decide_eq_true hb
    have hkn : k < n := by omega
    have hxk : xs[k]? = some (xs.getD (k : Int).toNat ByteArray.empty) := by rw [Int.toNat_natCast, List.getD_eq_getElem?_getD, List.getElem?_eq_getElem (by omega)]; rfl
    have hstep := findS_step (fun (_ : Unit) x => (decide (s = x), ())) () xs k _ hxk
    refine c_skip ?_
    refine c_seq ?_
    refine c_block ?_
    refine c_seq ?_
 
    refine c_ops ?_
    refine l_val rfl rfl rfl (r_move rfl) ?_
    refine l_val rfl rfl rfl (r_assign rfl) ?_
    refine l_nil ?_
    refine c_seq ?_
 
    refine c_ops ?_
    refine l_val rfl rfl rfl (r_move rfl) ?_
    refine l_val rfl rfl rfl (r_move rfl) ?_
    refine l_val rfl rfl rfl (r_move rfl) ?_
    refine l_val rfl rfl rfl (r_indexAddr_sl rfl Tryz.underlying44 Tryz.sizeOf9 rfl hsome rfl (by omega) (by omega)) ?_
    refine l_val rfl rfl rfl (r_load rfl Tryz.isAgg9 rfl ((hx.keep RStr.kept (Ext0.cells hE)).str k (by omega) (by omega))) ?_
    refine l_val rfl rfl rfl (r_seql rfl rfl rfl) ?_
    refine l_nil ?_
    refine c_cond rfl (fun hb => ?_) (fun hb => ?_)
    · have hr16 := hb
      replace hb := of_decide_eq_true hb
      refine c_seq ?_
   
      refine c_ops ?_
      refine l_val rfl rfl rfl (r_move rfl) ?_
      refine l_val rfl rfl rfl (r_assign rfl) ?_
      refine l_nil ?_
      refine c_ret ?_
      exact ⟨ret_int rfl (by rw [hfind, hstep, if_pos (by simpa using hb)]; rfl), hE⟩
    · have hr16 := hb
      replace hb := of_decide_eq_false hb
      refine c_skip ?_
   
      refine c_ops ?_
      refine l_val rfl rfl rfl (r_add rfl rfl rfl) ?_
      refine l_val rfl rfl rfl (r_move rfl) ?_
      refine l_nil ?_
      refine ⟨by repeat (first | exact Agree.over _ _ _ | exact Agree.refl _ _ | (refine Agree.puto ?_ _ _ rfl) | (refine Agree.put ?_ _ _ rfl) | (refine Agree.sub ?_ rfl)), ?_⟩
      exact ⟨n - (k + 1), by omega, k + 1, by omega, rfl, by show Value.int .i64 (IntKind.i64.wrap ((k : Int) + 1)) = _; rw [wrap_succ hkn hmax], by rw [hfind, hstep, if_neg (by simpa using hb)], hE⟩
  · have hr9 := hb
    replace hb := of_decide_eq_false hb
    have hkn : n ≤ k := by omega
    refine c_exit ?_
    refine c_seq ?_
 
    refine c_ops ?_
    refine l_val rfl rfl rfl (r_assign rfl) ?_
    refine l_nil ?_
    refine c_ret ?_
    exact ⟨ret_int rfl (by rw [hfind, findS_end _ _ _ _ (by omega)]; rfl), hE⟩
theorem base_calls (w0 : World) (xb mb : Nat) (A : Value) (st : Bool) (m : PM) (s t : GNode) (Ak : Option Addr) (ck : Nat) (Al : Option Addr) (cl : Nat) (Bk : Option Addr) (dk : Nat) (Bl : Option Addr) (dl : Nat) (hL : Has w0 (Sol xb mb A st m))
    (hsk : Strs w0 Ak ck s.keys) (hsl : Ints w0 Al cl s.l) (htk : Strs w0 Bk dk t.keys) (htl : Ints w0 Bl dl t.l)  :
    Calls Tryz.prog 107 [.pointer (some ⟨xb, 0, none⟩), .agg (nodeCells s Ak ck Al cl).toArray, .agg (nodeCells t Bk dk Bl dl).toArray].toArray w0 fun en w' => en = .returned (.bool ((true, m)).1) ∧ Ext (fun k => k = mb) w0 w' ∧ Has w' (Sol xb mb A st ((true, m)).2) := by
  have hE : Ext (fun k => k = mb) w0 w0 := Ext.refl _ _
  have hNC := noCells_map (hL.get 1 rfl)
  refine calls [6] Tryz.func107 rfl rfl rfl rfl ?_
  refine c_seq ?_
  refine c_ops ?_
  refine l_new rfl rfl rfl (n_box rfl hL hE) ?_
  rintro _ w ⟨b4, rfl, hb4, hL, hE, hX⟩
  refine l_new rfl rfl rfl (n_box rfl hL hE) ?_
  rintro _ w ⟨b5, rfl, hb5, hL, hE, hX⟩
  refine l_val rfl rfl rfl (r_assign rfl) ?_
  refine l_nil ?_
  refine c_seq ?_
  refine c_ops ?_
  refine l_val rfl rfl rfl (r_assign rfl) ?_
  refine l_nil ?_
  refine c_ret ?_
  exact ⟨rfl, ⟨hE, hL.tail.tail⟩⟩
theorem tag_calls (w0 : World) (xb mb : Nat) (A : Value) (st : Bool) (m : PM) (s t : GNode) (Ak : Option Addr) (ck : Nat) (Al : Option Addr) (cl : Nat) (Bk : Option Addr) (dk : Nat) (Bl : Option Addr) (dl : Nat) (hL : Has w0 (Sol xb mb A st m))
    (hsk : Strs w0 Ak ck s.keys) (hsl : Ints w0 Al cl s.l) (htk : Strs w0 Bk dk t.keys) (htl : Ints w0 Bl dl t.l)  :
    Calls Tryz.prog 108 [.pointer (some ⟨xb, 0, none⟩), .agg (nodeCells s Ak ck Al cl).toArray, .agg (nodeCells t Bk dk Bl dl).toArray].toArray w0 fun en w' => en = .returned (.bool ((decide (s.name = t.name), m)).1) ∧ Ext (fun k => k = mb) w0 w' ∧ Has w' (Sol xb mb A st ((decide (s.name = t.name), m)).2) := by
  have hE : Ext (fun k => k = mb) w0 w0 := Ext.refl _ _
  have hNC := noCells_map (hL.get 1 rfl)
  refine calls [6] Tryz.func108 rfl rfl rfl rfl ?_
  refine c_seq ?_
  refine c_ops ?_
  refine l_new rfl rfl rfl (n_box rfl hL hE) ?_
  rintro _ w ⟨b4, rfl, hb4, hL, hE, hX⟩
  refine l_new rfl rfl rfl (n_box rfl hL hE) ?_
  rintro _ w ⟨b5, rfl, hb5, hL, hE, hX⟩
  refine l_val rfl rfl rfl (r_assign rfl) ?_
  refine l_nil ?_
  refine c_seq ?_
  refine c_ops ?_
  refine l_val rfl rfl rfl (r_fieldAddr (n := 0) rfl Tryz.underlying46 rfl Tryz.sizeOf9 rfl) ?_
  refine l_val rfl rfl rfl (r_load_blk rfl Tryz.isAgg9 rfl (hL.get 1 rfl) rfl) ?_
  refine l_val rfl rfl rfl (r_fieldAddr (n := 0) rfl Tryz.underlying46 rfl Tryz.sizeOf9 rfl) ?_
  refine l_val rfl rfl rfl (r_load_blk rfl Tryz.isAgg9 rfl (hL.get 0 rfl) rfl) ?_
  refine l_val rfl rfl rfl (r_seql rfl rfl rfl) ?_
  refine l_val rfl rfl rfl (r_assign rfl) ?_
  refine l_nil ?_
  refine c_ret ?_
  exact ⟨rfl, ⟨hE, hL.tail.tail⟩⟩
theorem variable_calls (w0 : World) (xb mb : Nat) (A : Value) (st : Bool) (m : PM) (s t : GNode) (Ak : Option Addr) (ck : Nat) (Al : Option Addr) (cl : Nat) (Bk : Option Addr) (dk : Nat) (Bl : Option Addr) (dl : Nat) (hL : Has w0 (Sol xb mb A st m))
    (hsk : Strs w0 Ak ck s.keys) (hsl : Ints w0 Al cl s.l) (htk : Strs w0 Bk dk t.keys) (htl : Ints w0 Bl dl t.l) (hs1 : s.l.length = 1) (ht1 : t.l.length = 1) :
    Calls Tryz.prog 110 [.pointer (some ⟨xb, 0, none⟩), .agg (nodeCells s Ak ck Al cl).toArray, .agg (nodeCells t Bk dk Bl dl).toArray].toArray w0 fun en w' => en = .returned (.bool ((if s.num = t.num then grant m (iat s.l 0, iat t.l 0) else (false, m))).1) ∧ Ext (fun k => k = mb) w0 w' ∧ Has w' (Sol xb mb A st ((if s.num = t.num then grant m (iat s.l 0, iat t.l 0) else (false, m))).2) := by
  have hE : Ext (fun k => k = mb) w0 w0 := Ext.refl _ _
  have hNC := noCells_map (hL.get 1 rfl)
  refine calls [6] Tryz.func110 rfl rfl rfl rfl ?_
  refine c_seq ?_
  refine c_ops ?_
  refine l_new rfl rfl rfl (n_box rfl hL hE) ?_
  rintro _ w ⟨b4, rfl, hb4, hL, hE, hX⟩
  refine l_new rfl rfl rfl (n_box rfl hL hE) ?_
  rintro _ w ⟨b5, rfl, hb5, hL, hE, hX⟩
  refine l_val rfl rfl rfl (r_assign rfl) ?_
  refine l_nil ?_
  refine c_seq ?_
  refine c_draw mixed (hL.sub (.cons_cons _ (.cons_cons _ (.cons_cons _ (.cons _ .slnil))))) hE ?_
  replace hL := hL.drew
  replace hE := hE.drew
  have hK := hL.sub (.cons_cons _ (.cons_cons _ (.cons_cons _ (.cons _ .slnil))))
  refine h_t 0 rfl rfl (by kernel_rfl) (fun _ _ _ h => h) ⟨hK, hE⟩ rfl (fun W hW => r_fieldAddr (n := 0) rfl Tryz.underlying46 rfl Tryz.sizeOf3 rfl) ?_
  refine h_t 1 rfl rfl (by kernel_rfl) (fun _ _ _ h => h) ⟨hK, hE⟩ rfl (fun W hW => r_load_blk rfl Tryz.isAgg3 rfl (hW.1.get 1 rfl) rfl) ?_
  refine h_t 2 rfl rfl (by kernel_rfl) (fun _ _ _ h => h) ⟨hK, hE⟩ rfl (fun W hW => r_fieldAddr (n := 0) rfl Tryz.underlying46 rfl Tryz.sizeOf3 rfl) ?_
  refine h_t 3 rfl rfl (by kernel_rfl) (fun _ _ _ h => h) ⟨hK, hE⟩ rfl (fun W hW => r_load_blk rfl Tryz.isAgg3 rfl (hW.1.get 0 rfl) rfl) ?_
  refine h_t 4 rfl rfl (by kernel_rfl) (fun _ _ _ h => h) ⟨hK, hE⟩ rfl (fun W hW => r_eql rfl rfl rfl) ?_
  refine h_t 5 rfl rfl (by kernel_rfl) (fun _ _ _ h => h) ⟨hK, hE⟩ rfl (fun W hW => r_move rfl) ?_
  refine h_case 12 rfl (fun hb => ?_) (fun hb => ?_)
  · have hr12 := hb
    replace hb := of_decide_eq_true hb
    rw [if_pos hb]
    refine h_t 6 rfl rfl (by kernel_rfl) (fun _ _ _ h => h) ⟨hK, hE⟩ rfl (fun W hW => r_move rfl) ?_
    refine h_t 7 rfl rfl (by kernel_rfl) (fun _ _ _ h => h) ⟨hK, hE⟩ rfl (fun W hW => r_fieldAddr (n := 0) rfl Tryz.underlying46 rfl Tryz.sizeOf26 rfl) ?_
    refine h_t 8 rfl rfl (by kernel_rfl) (fun _ _ _ h => h) ⟨hK, hE⟩ rfl (fun W hW => r_load_blk rfl Tryz.isAgg26 rfl (hW.1.get 1 rfl) rfl) ?_
    refine h_t 9 rfl rfl (by kernel_rfl) (fun _ _ _ h => h) ⟨hK, hE⟩ rfl (fun W hW => r_indexAddr_sl rfl Tryz.underlying26 Tryz.sizeOf3 rfl hsl.is rfl (by decide) (by omega)) ?_
    refine h_t 10 rfl rfl (by kernel_rfl) (fun _ _ _ h => h) ⟨hK, hE⟩ rfl (fun W hW => r_load rfl Tryz.isAgg3 rfl ((hsl.keep RInt.kept ((hW.2).cells hNC)).int 0 (by decide) (by omega))) ?_
    refine h_t 11 rfl rfl (by kernel_rfl) (fun _ _ _ h => h) ⟨hK, hE⟩ rfl (fun W hW => r_fieldAddr (n := 0) rfl Tryz.underlying46 rfl Tryz.sizeOf26 rfl) ?_
    refine h_t 12 rfl rfl (by kernel_rfl) (fun _ _ _ h => h) ⟨hK, hE⟩ rfl (fun W hW => r_load_blk rfl Tryz.isAgg26 rfl (hW.1.get 0 rfl) rfl) ?_
    refine h_t 13 rfl rfl (by kernel_rfl) (fun _ _ _ h => h) ⟨hK, hE⟩ rfl (fun W hW => r_indexAddr_sl rfl Tryz.underlying26 Tryz.sizeOf3 rfl htl.is rfl (by decide) (by omega)) ?_
    refine h_t 14 rfl rfl (by kernel_rfl) (fun _ _ _ h => h) ⟨hK, hE⟩ rfl (fun W hW => r_load rfl Tryz.isAgg3 rfl ((htl.keep RInt.kept ((hW.2).cells hNC)).int 0 (by decide) (by omega))) ?_
    refine h_t 15 rfl rfl (by kernel_rfl) (fun _ _ _ h => h) ⟨hK, hE⟩ rfl (fun W hW => r_build rfl rfl (built_pair _ _)) ?_
    refine h_by 16 rfl rfl (by kernel_rfl) rfl (r_call rfl rfl Tryz.func91 rfl rfl) (granted_calls _ xb mb A st _ (iat s.l 0, iat t.l 0) (Has.right (L1 := [_, _]) hL)) ?_
    rintro _ w ⟨rfl, hX, hY⟩
    replace hL := Has.sol [_, _] hL hX hY
    replace hE := hE.trans hX
    have hK := hL.sub (.cons_cons _ (.cons_cons _ (.cons_cons _ (.cons _ .slnil))))
    refine ⟨_, rfl, ⟨hK, hE⟩, ?_⟩
    refine h_t 17 rfl rfl (by kernel_rfl) (fun _ _ _ h => h) ⟨hK, hE⟩ rfl (fun W hW => r_pick rfl rfl) ?_
    refine h_t 18 rfl rfl (by kernel_rfl) (fun _ _ _ h => h) ⟨hK, hE⟩ rfl (fun W hW => r_assign rfl) ?_
    refine h_done (by kernel_rfl) ?_
    refine c_ret ?_
    exact ⟨rfl, ⟨hE, hL.tail.tail⟩⟩
  · have hr12 := hb
    replace hb := of_decide_eq_false hb
    rw [if_neg hb]
    refine h_n 6 rfl rfl (by kernel_rfl) (fun _ _ _ h => h) ⟨hK, hE⟩ rfl ?_
    refine h_n 7 rfl rfl (by kernel_rfl) (fun _ _ _ h => h) ⟨hK, hE⟩ rfl ?_
    refine h_n 8 rfl rfl (by kernel_rfl) (fun _ _ _ h => h) ⟨hK, hE⟩ rfl ?_
    refine h_n 9 rfl rfl (by kernel_rfl) (fun _ _ _ h => h) ⟨hK, hE⟩ rfl ?_
    refine h_n 10 rfl rfl (by kernel_rfl) (fun _ _ _ h => h) ⟨hK, hE⟩ rfl ?_
    refine h_n 11 rfl rfl (by kernel_rfl) (fun _ _ _ h => h) ⟨hK, hE⟩ rfl ?_
    refine h_n 12 rfl rfl (by kernel_rfl) (fun _ _ _ h => h) ⟨hK, hE⟩ rfl ?_
    refine h_n 13 rfl rfl (by kernel_rfl) (fun _ _ _ h => h) ⟨hK, hE⟩ rfl ?_
    refine h_n 14 rfl rfl (by kernel_rfl) (fun _ _ _ h => h) ⟨hK, hE⟩ rfl ?_
    refine h_n 15 rfl rfl (by kernel_rfl) (fun _ _ _ h => h) ⟨hK, hE⟩ rfl ?_
    refine h_n 16 rfl rfl (by kernel_rfl) (fun _ _ _ h => h) ⟨hK, hE⟩ rfl ?_
    refine h_t 17 rfl rfl (by kernel_rfl) (fun _ _ _ h => h) ⟨hK, hE⟩ rfl (fun W hW => r_pick rfl rfl) ?_
    refine h_t 18 rfl rfl (by kernel_rfl) (fun _ _ _ h => h) ⟨hK, hE⟩ rfl (fun W hW => r_assign rfl) ?_
    refine h_done (by kernel_rfl) ?_
    refine c_ret ?_
    exact ⟨rfl, ⟨hE, hL.tail.tail⟩⟩
theorem zip_at {s : List ByteArray} {l : List Int} {k : Nat} {key : ByteArray} {x : Int} (h1 : s[k]? = some key) (h2 : l[k]? = some x) : (s.zip l).drop k = (key, x) :: (s.zip l).drop (k + 1) := by
  have hk1 := (List.getElem?_eq_some_iff.1 h1).1
  have hk2 := (List.getElem?_eq_some_iff.1 h2).1
  have hk : k < (s.zip l).length := by simp; omega
  rw [List.drop_eq_getElem_cons hk]
  have e1 := (List.getElem?_eq_some_iff.1 h1).2
  have e2 := (List.getElem?_eq_some_iff.1 h2).2
  rw [List.getElem_zip, e1, e2]
theorem iat_nat {l : List Int} {k : Nat} (h : k < l.length) : l[k]? = some (iat l k) := by
  unfold iat
  rw [Int.toNat_natCast, List.getD_eq_getElem?_getD, List.getElem?_eq_getElem h]
  rfl
theorem sat_nat {l : List ByteArray} {k : Nat} (h : k < l.length) : l[k]? = some (l.getD (k : Int).toNat ByteArray.empty) := by
  rw [Int.toNat_natCast, List.getD_eq_getElem?_getD, List.getElem?_eq_getElem h]
  rfl
theorem recM_step (s : GNode) (m : PM) {ks : List ByteArray} {l : List Int} {k : Nat} {key : ByteArray} {x : Int} (h1 : ks[k]? = some key) (h2 : l[k]? = some x) : recM s m ((ks.zip l).drop k) = if idxV (idxS s.keys key) < 0 then (false, m) else if (grant m (iat s.l (idxV (idxS s.keys key)), x)).1 then recM s (grant m (iat s.l (idxV (idxS s.keys key)), x)).2 ((ks.zip l).drop (k + 1)) else (false, (grant m (iat s.l (idxV (idxS s.keys key)), x)).2) := by
  rw [zip_at h1 h2, recM]
theorem idxS_lt (l : List ByteArray) (s : ByteArray) : idxV (idxS l s) < l.length := idxV_lt fun i h => by
  have := (findS_lt _ 0 () l i h).2
  omega
theorem record_calls (w0 : World) (xb mb : Nat) (A : Value) (st : Bool) (m : PM) (s t : GNode) (Ak : Option Addr) (ck : Nat) (Al : Option Addr) (cl : Nat) (Bk : Option Addr) (dk : Nat) (Bl : Option Addr) (dl : Nat) (hL : Has w0 (Sol xb mb A st m))
    (hsk : Strs w0 Ak ck s.keys) (hsl : Ints w0 Al cl s.l) (htk : Strs w0 Bk dk t.keys) (htl : Ints w0 Bl dl t.l) (hs1 : s.l.length = s.keys.length) (ht1 : t.l.length = t.keys.length) :
    Calls Tryz.prog 109 [.pointer (some ⟨xb, 0, none⟩), .agg (nodeCells s Ak ck Al cl).toArray, .agg (nodeCells t Bk dk Bl dl).toArray].toArray w0 fun en w' => en = .returned (.bool (recM s m (t.keys.zip t.l)).1) ∧ Ext (fun k => k = mb) w0 w' ∧ Has w' (Sol xb mb A st (recM s m (t.keys.zip t.l)).2) := by
  have hE : Ext (fun k => k = mb) w0 w0 := Ext.refl _ _
  have hNC := noCells_map (hL.get 1 rfl)
  refine calls [6] Tryz.func109 rfl rfl rfl rfl ?_
  refine c_seq ?_
  refine c_ops ?_
  refine l_new rfl rfl rfl (n_box rfl hL hE) ?_
  rintro _ w ⟨b4, rfl, hb4, hL, hE, hX⟩
  refine l_new rfl rfl rfl (n_box rfl hL hE) ?_
  rintro _ w ⟨b5, rfl, hb5, hL, hE, hX⟩
  refine l_val rfl rfl rfl (r_assign rfl) ?_
  refine l_nil ?_
  refine c_seq ?_
  refine c_seq ?_
  refine c_ops ?_
  refine l_val rfl rfl rfl (r_fieldAddr (n := 0) rfl Tryz.underlying46 rfl Tryz.sizeOf44 rfl) ?_
  refine l_val rfl rfl rfl (r_load_blk rfl Tryz.isAgg44 rfl (hL.get 0 rfl) rfl) ?_
  refine l_val rfl rfl rfl (r_len rfl Tryz.underlying44 rfl) ?_
  refine l_val rfl rfl rfl (r_move rfl) ?_
  refine l_nil ?_
  refine c_block ?_
  refine c_loop [6, 7, 8, 9, 13, 14, 15, 16, 17, 18, 19, 20, 21, 22, 23, 24, 25, 26, 27, 28, 29, 30, 31, 32, 33, 34, 35, 36, 37, 38, 39, 40] (fun m1 e w => ∃ (k : Nat) (m' : PM), k ≤ t.keys.length ∧ m1 = t.keys.length - k ∧ e 13 = .int .i64 k ∧ recM s m (t.keys.zip t.l) = recM s m' ((t.keys.zip t.l).drop k) ∧ Has w ([.blk b5 (.cells (nodeCells t Bk dk Bl dl).toArray 46 (0, 0)), .blk b4 (.cells (nodeCells s Ak ck Al cl).toArray 46 (0, 0))] ++ Sol xb mb A st m') ∧ Ext (fun k => k = mb) w0 w) t.keys.length ?_ ?_
  · exact ⟨0, m, Nat.zero_le _, rfl, rfl, rfl, hL, hE⟩
  intro m1 e w hI
  obtain ⟨k, m', hk, hm, h13, hrec, hL, hE⟩ := hI
  refine c_know h13 ?_
  refine c_seq ?_
  refine c_ops ?_
  refine l_val rfl rfl rfl (r_lss rfl rfl rfl) ?_
  refine l_nil ?_
  refine c_seq ?_
  refine c_cond rfl (fun hb => ?_) (fun hb => ?_)
  · have hr14 := hb
    replace hb := of_decide_eq_true hb
    have hkn : k < t.keys.length := by omega
    obtain ⟨key, hkey⟩ : ∃ key, key = t.keys.getD (k : Int).toNat ByteArray.empty := ⟨_, rfl⟩
    have hstep := recM_step s m' (sat_nat hkn) (iat_nat (show k < t.l.length by omega))
    rw [← hkey] at hstep
    have hlt := idxS_lt s.keys key
    refine c_skip ?_
    refine c_seq ?_
    refine c_block ?_
    refine c_seq ?_
 
    refine c_ops ?_
    refine l_val rfl rfl rfl (r_move rfl) ?_
    refine l_val rfl rfl rfl (r_indexAddr_sl rfl Tryz.underlying44 Tryz.sizeOf9 rfl htk.is rfl (by omega) (by omega)) ?_
    refine l_val rfl rfl rfl (r_load (v := .string key) rfl Tryz.isAgg9 rfl (by rw [hkey]; exact (htk.keep RStr.kept ((hE).cells hNC)).str k (by omega) (by omega))) ?_
    refine l_val rfl rfl rfl (r_assign rfl) ?_
    refine l_val rfl rfl rfl (r_assign rfl) ?_
    refine l_nil ?_
    refine c_seq ?_
 
    refine c_ops ?_
    refine l_val rfl rfl rfl (r_fieldAddr (n := 0) rfl Tryz.underlying46 rfl Tryz.sizeOf44 rfl) ?_
    refine l_val rfl rfl rfl (r_load_blk rfl Tryz.isAgg44 rfl (hL.get 1 rfl) rfl) ?_
    refine l_val rfl rfl rfl (r_move rfl) ?_
    refine l_by rfl rfl rfl (r_call rfl rfl Tryz.func117 rfl rfl) (Index_str _ _ _ _ s.keys _ (hsk.keep RStr.kept (hE.cells hNC))) ?_
    rintro _ w ⟨rfl, hX⟩
    replace hL := hL.ext0 hX
    replace hE := hE.step0 hX
    refine ⟨_, rfl, ?_⟩
    refine l_val rfl rfl rfl (r_assign rfl) ?_
    refine l_nil ?_
    refine c_seq ?_
 
    refine c_draw mixed (hL.sub (.cons_cons _ (.cons_cons _ (.cons_cons _ (.cons _ .slnil))))) hE ?_
    replace hL := hL.drew
    replace hE := hE.drew
    have hK := hL.sub (.cons_cons _ (.cons_cons _ (.cons_cons _ (.cons _ .slnil))))
    refine h_t 0 rfl rfl (by kernel_rfl) (fun _ _ _ h => h) ⟨hK, hE⟩ rfl (fun W hW => r_move rfl) ?_
    refine h_t 1 rfl rfl (by kernel_rfl) (fun _ _ _ h => h) ⟨hK, hE⟩ rfl (fun W hW => r_lss rfl rfl rfl) ?_
    refine h_t 2 rfl rfl (by kernel_rfl) (fun _ _ _ h => h) ⟨hK, hE⟩ rfl (fun W hW => r_move rfl) ?_
    refine h_case 24 rfl (fun hb => ?_) (fun hb => ?_)
    · have hr24 := hb
      replace hb := of_decide_eq_true hb
      have hb24 := hb
      refine h_n 3 rfl rfl (by kernel_rfl) (fun _ _ _ h => h) ⟨hK, hE⟩ rfl ?_
      refine h_n 4 rfl rfl (by kernel_rfl) (fun _ _ _ h => h) ⟨hK, hE⟩ rfl ?_
      refine h_n 5 rfl rfl (by kernel_rfl) (fun _ _ _ h => h) ⟨hK, hE⟩ rfl ?_
      refine h_n 6 rfl rfl (by kernel_rfl) (fun _ _ _ h => h) ⟨hK, hE⟩ rfl ?_
      refine h_n 7 rfl rfl (by kernel_rfl) (fun _ _ _ h => h) ⟨hK, hE⟩ rfl ?_
      refine h_n 8 rfl rfl (by kernel_rfl) (fun _ _ _ h => h) ⟨hK, hE⟩ rfl ?_
      refine h_n 9 rfl rfl (by kernel_rfl) (fun _ _ _ h => h) ⟨hK, hE⟩ rfl ?_
      refine h_n 10 rfl rfl (by kernel_rfl) (fun _ _ _ h => h) ⟨hK, hE⟩ rfl ?_
      refine h_n 11 rfl rfl (by kernel_rfl) (fun _ _ _ h => h) ⟨hK, hE⟩ rfl ?_
      refine h_n 12 rfl rfl (by kernel_rfl) (fun _ _ _ h => h) ⟨hK, hE⟩ rfl ?_
      refine h_n 13 rfl rfl (by kernel_rfl) (fun _ _ _ h => h) ⟨hK, hE⟩ rfl ?_
      refine h_n 14 rfl rfl (by kernel_rfl) (fun _ _ _ h => h) ⟨hK, hE⟩ rfl ?_
      refine h_n 15 rfl rfl (by kernel_rfl) (fun _ _ _ h => h) ⟨hK, hE⟩ rfl ?_
      refine h_n 16 rfl rfl (by kernel_rfl) (fun _ _ _ h => h) ⟨hK, hE⟩ rfl ?_
      refine h_t 17 rfl rfl (by kernel_rfl) (fun _ _ _ h => h) ⟨hK, hE⟩ rfl (fun W hW => r_pick rfl rfl) ?_
      refine h_done (by kernel_rfl) ?_
      refine c_yes rfl ?_
      refine c_seq ?_
   
      refine c_ops ?_
      refine l_val rfl rfl rfl (r_assign rfl) ?_
      refine l_nil ?_
      refine c_ret ?_
      exact ⟨ret_bool rfl (by rw [hrec, hstep, if_pos hb24]), hE, by rw [hrec, hstep, if_pos hb24]; exact hL.right⟩
    · have hr24 := hb
      replace hb := of_decide_eq_false hb
      have hb24 := hb
      refine h_t 3 rfl rfl (by kernel_rfl) (fun _ _ _ h => h) ⟨hK, hE⟩ rfl (fun W hW => r_move rfl) ?_
      refine h_t 4 rfl rfl (by kernel_rfl) (fun _ _ _ h => h) ⟨hK, hE⟩ rfl (fun W hW => r_fieldAddr (n := 0) rfl Tryz.underlying46 rfl Tryz.sizeOf26 rfl) ?_
      refine h_t 5 rfl rfl (by kernel_rfl) (fun _ _ _ h => h) ⟨hK, hE⟩ rfl (fun W hW => r_load_blk rfl Tryz.isAgg26 rfl (hW.1.get 1 rfl) rfl) ?_
      refine h_t 6 rfl rfl (by kernel_rfl) (fun _ _ _ h => h) ⟨hK, hE⟩ rfl (fun W hW => r_move rfl) ?_
      refine h_t 7 rfl rfl (by kernel_rfl) (fun _ _ _ h => h) ⟨hK, hE⟩ rfl (fun W hW => r_indexAddr_sl rfl Tryz.underlying26 Tryz.sizeOf3 rfl hsl.is rfl (by omega) (by omega)) ?_
      refine h_t 8 rfl rfl (by kernel_rfl) (fun _ _ _ h => h) ⟨hK, hE⟩ rfl (fun W hW => r_load rfl Tryz.isAgg3 rfl ((hsl.keep RInt.kept ((hW.2).cells hNC)).int _ (by omega) (by omega))) ?_
      refine h_t 9 rfl rfl (by kernel_rfl) (fun _ _ _ h => h) ⟨hK, hE⟩ rfl (fun W hW => r_fieldAddr (n := 0) rfl Tryz.underlying46 rfl Tryz.sizeOf26 rfl) ?_
      refine h_t 10 rfl rfl (by kernel_rfl) (fun _ _ _ h => h) ⟨hK, hE⟩ rfl (fun W hW => r_load_blk rfl Tryz.isAgg26 rfl (hW.1.get 0 rfl) rfl) ?_
      refine h_t 11 rfl rfl (by kernel_rfl) (fun _ _ _ h => h) ⟨hK, hE⟩ rfl (fun W hW => r_move rfl) ?_
      refine h_t 12 rfl rfl (by kernel_rfl) (fun _ _ _ h => h) ⟨hK, hE⟩ rfl (fun W hW => r_indexAddr_sl rfl Tryz.underlying26 Tryz.sizeOf3 rfl htl.is rfl (by omega) (by omega)) ?_
      refine h_t 13 rfl rfl (by kernel_rfl) (fun _ _ _ h => h) ⟨hK, hE⟩ rfl (fun W hW => r_load rfl Tryz.isAgg3 rfl ((htl.keep RInt.kept ((hW.2).cells hNC)).int _ (by omega) (by omega))) ?_
      refine h_t 14 rfl rfl (by kernel_rfl) (fun _ _ _ h => h) ⟨hK, hE⟩ rfl (fun W hW => r_build rfl rfl (built_pair _ _)) ?_
      refine h_by 15 rfl rfl (by kernel_rfl) rfl (r_call rfl rfl Tryz.func91 rfl rfl) (granted_calls _ xb mb A st _ (iat s.l (idxV (idxS s.keys key)), iat t.l k) (Has.right (L1 := [_, _]) hL)) ?_
      rintro _ w ⟨rfl, hX, hY⟩
      replace hL := Has.sol [_, _] hL hX hY
      replace hE := hE.trans hX
      have hK := hL.sub (.cons_cons _ (.cons_cons _ (.cons_cons _ (.cons _ .slnil))))
      refine ⟨_, rfl, ⟨hK, hE⟩, ?_⟩
      refine h_t 16 rfl rfl (by kernel_rfl) (fun _ _ _ h => h) ⟨hK, hE⟩ rfl (fun W hW => r_not rfl rfl) ?_
      refine h_t 17 rfl rfl (by kernel_rfl) (fun _ _ _ h => h) ⟨hK, hE⟩ rfl (fun W hW => r_pick rfl rfl) ?_
      refine h_done (by kernel_rfl) ?_
      refine c_cond rfl (fun hb => ?_) (fun hb => ?_)
      · have hr39 := hb
        refine c_seq ?_
     
        refine c_ops ?_
        refine l_val rfl rfl rfl (r_assign rfl) ?_
        refine l_nil ?_
        refine c_ret ?_
        exact ⟨ret_bool rfl (by rw [hrec, hstep, if_neg hb24, if_neg (by simpa using hb)]), hE, by rw [hrec, hstep, if_neg hb24, if_neg (by simpa using hb)]; exact hL.right⟩
      · have hr39 := hb
        have hrec2 : recM s m (t.keys.zip t.l) = recM s (grant m' (iat s.l (idxV (idxS s.keys key)), iat t.l k)).2 ((t.keys.zip t.l).drop (k + 1)) := by
          rw [hrec, hstep, if_neg hb24, if_pos (by simpa using hb)]
        refine c_skip ?_
     
        refine c_ops ?_
        refine l_val rfl rfl rfl (r_add rfl rfl rfl) ?_
        refine l_val rfl rfl rfl (r_move rfl) ?_
        refine l_nil ?_
        refine ⟨by repeat (first | exact Agree.over _ _ _ | exact Agree.refl _ _ | (refine Agree.puto ?_ _ _ rfl) | (refine Agree.put ?_ _ _ rfl) | (refine Agree.sub ?_ rfl)), ?_⟩
        exact ⟨t.keys.length - (k + 1), by omega, k + 1, _, by omega, rfl, by show Value.int .i64 (IntKind.i64.wrap ((k : Int) + 1)) = _; rw [wrap_succ hkn htk.max], hrec2, hL, hE⟩
  · have hr14 := hb
    replace hb := of_decide_eq_false hb
    have hkn : t.keys.length ≤ k := by omega
    refine c_exit ?_
    refine c_seq ?_
 
    refine c_ops ?_
    refine l_val rfl rfl rfl (r_assign rfl) ?_
    refine l_nil ?_
    refine c_ret ?_
    exact ⟨ret_bool rfl (by rw [hrec, List.drop_eq_nil_of_le (by simp; omega)]; rfl), hE, by rw [hrec, List.drop_eq_nil_of_le (by simp; omega)]; exact hL.right⟩
end Go.Proofs.YtndophlnapjkhaaGreatDoor.Vc
namespace Go.Proofs.YtndophlnapjkhaaGreatDoor.Vc
open Go Go.RowKit
set_option linter.unusedVariables false
set_option linter.unusedSimpArgs false
def PlainN (s : GNode) : Prop := s.kind = 1 ∨ s.kind = 2 ∨ s.kind = 3 ∨ s.kind = 4 ∨ s.kind = 5 ∨ (s.kind = 7 ∧ s.l.length = s.keys.length) ∨ (s.kind = 9 ∧ s.l.length = 1)
def rulesArr : Array Value := #[.nilFunc, .nilFunc, .func (.func 107) #[] #[], .func (.func 107) #[] #[], .func (.func 107) #[] #[], .func (.func 108) #[] #[], .nilFunc, .func (.func 109) #[] #[], .nilFunc, .func (.func 110) #[] #[]]
theorem built_rules : Tryz.prog.built 130 [(2, .func (.func 107) #[] #[]), (3, .func (.func 107) #[] #[]), (4, .func (.func 107) #[] #[]), (5, .func (.func 108) #[] #[]), (7, .func (.func 109) #[] #[]), (9, .func (.func 110) #[] #[])] = some rulesArr := by kernel_rfl
theorem rule_at {s t : GNode} (hs : PlainN s) (ht : PlainN t) (he : s.kind = t.kind) (h1 : ¬ s.kind = 1) : ∃ fid fn c, rulesArr[s.kind.toNat]? = some (.func (.func fid) #[] #[]) ∧ Tryz.prog.funcs[fid]? = some fn ∧ (fn.name == "runtime.NumGoroutine") = false ∧ fn.body = some c ∧ (0 ≤ s.kind ∧ s.kind < 10) ∧
    ∀ (w0 : World) (xb mb : Nat) (A : Value) (st : Bool) (m : PM) (Ak : Option Addr) (ck : Nat) (Al : Option Addr) (cl : Nat) (Bk : Option Addr) (dk : Nat) (Bl : Option Addr) (dl : Nat), Has w0 (Sol xb mb A st m) → Strs w0 Ak ck s.keys → Ints w0 Al cl s.l → Strs w0 Bk dk t.keys → Ints w0 Bl dl t.l →
      Calls Tryz.prog fid ([.pointer (some ⟨xb, 0, none⟩), .agg (nodeCells s Ak ck Al cl).toArray, .agg (nodeCells t Bk dk Bl dl).toArray] : List Value).toArray w0 fun en w' => en = .returned (.bool (ruleM m s t).1) ∧ Ext (fun k => k = mb) w0 w' ∧ Has w' (Sol xb mb A st (ruleM m s t).2) := by
  rcases hs with h | h | h | h | h | ⟨h, hl⟩ | ⟨h, hl⟩
  · exact absurd h h1
  · have hr : ∀ m, ruleM m s t = (true, m) := fun m => by simp [ruleM, h]
    refine ⟨_, _, _, by rw [h]; rfl, Tryz.func107, rfl, rfl, by omega, fun w0 xb mb A st m Ak ck Al cl Bk dk Bl dl hL hsk hsl htk htl => ?_⟩
    rw [hr]
    exact base_calls w0 xb mb A st m s t Ak ck Al cl Bk dk Bl dl hL hsk hsl htk htl
  · have hr : ∀ m, ruleM m s t = (true, m) := fun m => by simp [ruleM, h]
    refine ⟨_, _, _, by rw [h]; rfl, Tryz.func107, rfl, rfl, by omega, fun w0 xb mb A st m Ak ck Al cl Bk dk Bl dl hL hsk hsl htk htl => ?_⟩
    rw [hr]
    exact base_calls w0 xb mb A st m s t Ak ck Al cl Bk dk Bl dl hL hsk hsl htk htl
  · have hr : ∀ m, ruleM m s t = (true, m) := fun m => by simp [ruleM, h]
    refine ⟨_, _, _, by rw [h]; rfl, Tryz.func107, rfl, rfl, by omega, fun w0 xb mb A st m Ak ck Al cl Bk dk Bl dl hL hsk hsl htk htl => ?_⟩
    rw [hr]
    exact base_calls w0 xb mb A st m s t Ak ck Al cl Bk dk Bl dl hL hsk hsl htk htl
  · have hr : ∀ m, ruleM m s t = (decide (s.name = t.name), m) := fun m => by simp [ruleM, h]
    refine ⟨_, _, _, by rw [h]; rfl, Tryz.func108, rfl, rfl, by omega, fun w0 xb mb A st m Ak ck Al cl Bk dk Bl dl hL hsk hsl htk htl => ?_⟩
    rw [hr]
    exact tag_calls w0 xb mb A st m s t Ak ck Al cl Bk dk Bl dl hL hsk hsl htk htl
  · have hr : ∀ m, ruleM m s t = recM s m (t.keys.zip t.l) := fun m => by simp [ruleM, h]
    have ht1 : t.l.length = t.keys.length := by
      rcases ht with k | k | k | k | k | ⟨k, hk⟩ | ⟨k, hk⟩ <;> first | exact hk | omega
    refine ⟨_, _, _, by rw [h]; rfl, Tryz.func109, rfl, rfl, by omega, fun w0 xb mb A st m Ak ck Al cl Bk dk Bl dl hL hsk hsl htk htl => ?_⟩
    rw [hr]
    exact record_calls w0 xb mb A st m s t Ak ck Al cl Bk dk Bl dl hL hsk hsl htk htl hl ht1
  · have hr : ∀ m, ruleM m s t = if s.num = t.num then grant m (iat s.l 0, iat t.l 0) else (false, m) := fun m => by simp [ruleM, h]
    have ht1 : t.l.length = 1 := by
      rcases ht with k | k | k | k | k | ⟨k, hk⟩ | ⟨k, hk⟩ <;> first | exact hk | omega
    refine ⟨_, _, _, by rw [h]; rfl, Tryz.func110, rfl, rfl, by omega, fun w0 xb mb A st m Ak ck Al cl Bk dk Bl dl hL hsk hsl htk htl => ?_⟩
    rw [hr]
    exact variable_calls w0 xb mb A st m s t Ak ck Al cl Bk dk Bl dl hL hsk hsl htk htl hl ht1
theorem does_calls (w0 : World) (xb mb : Nat) (A : Value) (st : Bool) (m : PM) (s t : GNode) (hs : PlainN s) (ht : PlainN t) (Ak : Option Addr) (ck : Nat) (Al : Option Addr) (cl : Nat) (Bk : Option Addr) (dk : Nat) (Bl : Option Addr) (dl : Nat) (hL : Has w0 (Sol xb mb A st m))
    (hsk : Strs w0 Ak ck s.keys) (hsl : Ints w0 Al cl s.l) (htk : Strs w0 Bk dk t.keys) (htl : Ints w0 Bl dl t.l) :
    Calls Tryz.prog 93 [.pointer (some ⟨xb, 0, none⟩), .agg (nodeCells s Ak ck Al cl).toArray, .agg (nodeCells t Bk dk Bl dl).toArray].toArray w0 fun en w' => en = .returned (.bool (doesM st m s t).1) ∧ Ext (fun k => k = mb) w0 w' ∧ Has w' (Sol xb mb A st (doesM st m s t).2) := by
  have hE : Ext (fun k => k = mb) w0 w0 := Ext.refl _ _
  have hNC := noCells_map (hL.get 1 rfl)
  refine calls [6] Tryz.func93 rfl rfl rfl rfl ?_
  refine c_seq ?_
  refine c_ops ?_
  refine l_new rfl rfl rfl (n_box rfl hL hE) ?_
  rintro _ w ⟨b4, rfl, hb4, hL, hE, hX⟩
  refine l_new rfl rfl rfl (n_box rfl hL hE) ?_
  rintro _ w ⟨b5, rfl, hb5, hL, hE, hX⟩
  refine l_val rfl rfl rfl (r_assign rfl) ?_
  refine l_nil ?_
  refine c_seq ?_
  refine c_merge [8, 9, 10, 11, 12, 13, 14, 15] (fun e w => e 15 = .bool (decide (s.kind = 1) || decide (t.kind = 1)) ∧ Has w ([.blk b5 (.cells (nodeCells t Bk dk Bl dl).toArray 46 (0, 0)), .blk b4 (.cells (nodeCells s Ak ck Al cl).toArray 46 (0, 0))] ++ Sol xb mb A st m) ∧ Ext (fun k => k = mb) w0 w) ?_ ?_
  · skip
 
    refine c_ops ?_
    refine l_val rfl rfl rfl (r_fieldAddr (n := 0) rfl Tryz.underlying46 rfl Tryz.sizeOf3 rfl) ?_
    refine l_val rfl rfl rfl (r_load_blk rfl Tryz.isAgg3 rfl (hL.get 1 rfl) rfl) ?_
    refine l_val rfl rfl rfl (r_eql rfl rfl rfl) ?_
    refine l_val rfl rfl rfl (r_move rfl) ?_
    refine l_case 11 rfl (fun hb => ?_) (fun hb => ?_)
    · have hr11 := hb
      replace hb := of_decide_eq_true hb
      refine l_not rfl rfl rfl ?_
      refine l_not rfl rfl rfl ?_
      refine l_not rfl rfl rfl ?_
      refine l_val rfl rfl rfl (r_pick rfl rfl) ?_
      refine l_nil ?_
      refine ⟨by repeat (first | exact Agree.over _ _ _ | exact Agree.refl _ _ | (refine Agree.puto ?_ _ _ rfl) | (refine Agree.put ?_ _ _ rfl) | (refine Agree.sub ?_ rfl)), ?_⟩
      exact ⟨congrArg Value.bool (by simp only [hr11, Bool.true_and, Bool.and_true, Bool.false_and, Bool.and_false, Bool.true_or, Bool.or_true, Bool.false_or, Bool.or_false, Bool.not_true, Bool.not_false, cond_true, cond_false]), hL, hE⟩
    · have hr11 := hb
      replace hb := of_decide_eq_false hb
      refine l_val rfl rfl rfl (r_fieldAddr (n := 0) rfl Tryz.underlying46 rfl Tryz.sizeOf3 rfl) ?_
      refine l_val rfl rfl rfl (r_load_blk rfl Tryz.isAgg3 rfl (hL.get 0 rfl) rfl) ?_
      refine l_val rfl rfl rfl (r_eql rfl rfl rfl) ?_
      refine l_val rfl rfl rfl (r_pick rfl rfl) ?_
      refine l_nil ?_
      refine ⟨by repeat (first | exact Agree.over _ _ _ | exact Agree.refl _ _ | (refine Agree.puto ?_ _ _ rfl) | (refine Agree.put ?_ _ _ rfl) | (refine Agree.sub ?_ rfl)), ?_⟩
      exact ⟨congrArg Value.bool (by simp only [hr11, Bool.true_and, Bool.and_true, Bool.false_and, Bool.and_false, Bool.true_or, Bool.or_true, Bool.false_or, Bool.or_false, Bool.not_true, Bool.not_false, cond_true, cond_false]), hL, hE⟩
  rintro e w hI
  obtain ⟨h15, hL, hE⟩ := hI
  refine c_know h15 ?_
  refine c_cond rfl (fun hb => ?_) (fun hb => ?_)
  · have hr15 := hb
    have hd : doesM st m s t = (!st || decide (s.kind = t.kind), m) := by unfold doesM; rw [if_pos (by simpa using hb)]
    rw [hd]
    refine c_seq ?_
 
    refine c_ops ?_
    refine l_val rfl rfl rfl (r_move rfl) ?_
    refine l_val rfl rfl rfl (r_nilCheck rfl rfl) ?_
    refine l_val rfl rfl rfl (r_fieldAddr (n := 0) rfl Tryz.underlying111 rfl Tryz.sizeOf4 rfl) ?_
    refine l_val rfl rfl rfl (r_load_blk rfl Tryz.isAgg4 rfl (hL.get 2 rfl) rfl) ?_
    refine l_val rfl rfl rfl (r_not rfl rfl) ?_
    refine l_val rfl rfl rfl (r_move rfl) ?_
    refine l_case 21 rfl (fun hb => ?_) (fun hb => ?_)
    · have hr21 := hb
      refine l_not rfl rfl rfl ?_
      refine l_not rfl rfl rfl ?_
      refine l_not rfl rfl rfl ?_
      refine l_not rfl rfl rfl ?_
      refine l_not rfl rfl rfl ?_
      refine l_val rfl rfl rfl (r_pick rfl rfl) ?_
      refine l_val rfl rfl rfl (r_assign rfl) ?_
      refine l_nil ?_
      refine c_ret ?_
      exact ⟨ret_bool rfl (by simp only [hr15, hr21, Bool.true_and, Bool.and_true, Bool.false_and, Bool.and_false, Bool.true_or, Bool.or_true, Bool.false_or, Bool.or_false, Bool.not_true, Bool.not_false, cond_true, cond_false]), hE, Has.right (L1 := [_, _]) hL⟩
    · have hr21 := hb
      refine l_val rfl rfl rfl (r_fieldAddr (n := 0) rfl Tryz.underlying46 rfl Tryz.sizeOf3 rfl) ?_
      refine l_val rfl rfl rfl (r_load_blk rfl Tryz.isAgg3 rfl (hL.get 1 rfl) rfl) ?_
      refine l_val rfl rfl rfl (r_fieldAddr (n := 0) rfl Tryz.underlying46 rfl Tryz.sizeOf3 rfl) ?_
      refine l_val rfl rfl rfl (r_load_blk rfl Tryz.isAgg3 rfl (hL.get 0 rfl) rfl) ?_
      refine l_val rfl rfl rfl (r_eql rfl rfl rfl) ?_
      refine l_val rfl rfl rfl (r_pick rfl rfl) ?_
      refine l_val rfl rfl rfl (r_assign rfl) ?_
      refine l_nil ?_
      refine c_ret ?_
      exact ⟨ret_bool rfl (by simp only [hr15, hr21, Bool.true_and, Bool.and_true, Bool.false_and, Bool.and_false, Bool.true_or, Bool.or_true, Bool.false_or, Bool.or_false, Bool.not_true, Bool.not_false, cond_true, cond_false]), hE, Has.right (L1 := [_, _]) hL⟩
  · have hr15 := hb
    have h11 : ¬ (s.kind = 1 ∨ t.kind = 1) := by simpa using hb
    have hd : doesM st m s t = if s.kind = t.kind then ruleM m s t else (false, m) := by unfold doesM; rw [if_neg h11]
    refine c_skip ?_
    refine c_seq ?_
 
    refine c_ops ?_
    refine l_val rfl rfl rfl (r_build rfl rfl (built_rules)) ?_
    refine l_new rfl rfl rfl (n_alloc rfl Tryz.zeroValue130 hL hE) ?_
    rintro _ w ⟨b7, rfl, hb7, hL, hE, hX⟩
    refine l_new_do rfl rfl (r_store 0 rfl Tryz.sizeOf130 rfl hL hE rfl rfl rfl rfl (fun h => absurd h (Nat.not_lt.2 hb7))) ?_
    rintro w ⟨hL, hE, hz, hk⟩
    refine l_nil ?_
    refine c_seq ?_
 
    refine c_draw mixed (hL.sub (.cons_cons _ (.cons_cons _ (.cons_cons _ (.cons_cons _ (.cons _ .slnil)))))) hE ?_
    replace hL := hL.drew
    replace hE := hE.drew
    have hK := hL.sub (.cons_cons _ (.cons_cons _ (.cons_cons _ (.cons_cons _ (.cons _ .slnil)))))
    refine h_t 0 rfl rfl (by kernel_rfl) (fun _ _ _ h => h) ⟨hK, hE⟩ rfl (fun W hW => r_fieldAddr (n := 0) rfl Tryz.underlying46 rfl Tryz.sizeOf3 rfl) ?_
    refine h_t 1 rfl rfl (by kernel_rfl) (fun _ _ _ h => h) ⟨hK, hE⟩ rfl (fun W hW => r_load_blk rfl Tryz.isAgg3 rfl (hW.1.get 2 rfl) rfl) ?_
    refine h_t 2 rfl rfl (by kernel_rfl) (fun _ _ _ h => h) ⟨hK, hE⟩ rfl (fun W hW => r_fieldAddr (n := 0) rfl Tryz.underlying46 rfl Tryz.sizeOf3 rfl) ?_
    refine h_t 3 rfl rfl (by kernel_rfl) (fun _ _ _ h => h) ⟨hK, hE⟩ rfl (fun W hW => r_load_blk rfl Tryz.isAgg3 rfl (hW.1.get 1 rfl) rfl) ?_
    refine h_t 4 rfl rfl (by kernel_rfl) (fun _ _ _ h => h) ⟨hK, hE⟩ rfl (fun W hW => r_eql rfl rfl rfl) ?_
    refine h_t 5 rfl rfl (by kernel_rfl) (fun _ _ _ h => h) ⟨hK, hE⟩ rfl (fun W hW => r_move rfl) ?_
    refine h_case 34 rfl (fun hb => ?_) (fun hb => ?_)
    · have hr34 := hb
      replace hb := of_decide_eq_true hb
      rw [if_pos hb] at hd
      rw [hd]
      obtain ⟨fid, fn, cd, hat, hfn, hname, hbody, hk10, hcall⟩ := rule_at hs ht hb (fun h => h11 (.inl h))
      have hcell : ∀ W, Has W [.blk b7 (.cells rulesArr 130 (0, 0)), .blk b5 (.cells (nodeCells t Bk dk Bl dl).toArray 46 (0, 0)), .blk b4 (.cells (nodeCells s Ak ck Al cl).toArray 46 (0, 0)), .blk xb (solB A st mb)] → W.cell? ((⟨b7, 0, none⟩ : Addr).add (s.kind.toNat * 1)) = some (.func (.func fid) #[] #[]) := fun W hW => by
        rw [Nat.mul_one, blk_add, blk_cell (hW.get 0 rfl), Nat.zero_add]
        exact hat
      refine h_t 6 rfl rfl (by kernel_rfl) (fun _ _ _ h => h) ⟨hK, hE⟩ rfl (fun W hW => r_fieldAddr (n := 0) rfl Tryz.underlying46 rfl Tryz.sizeOf3 rfl) ?_
      refine h_t 7 rfl rfl (by kernel_rfl) (fun _ _ _ h => h) ⟨hK, hE⟩ rfl (fun W hW => r_load_blk rfl Tryz.isAgg3 rfl (hW.1.get 2 rfl) rfl) ?_
      refine h_t 8 rfl rfl (by kernel_rfl) (fun _ _ _ h => h) ⟨hK, hE⟩ rfl (fun W hW => r_indexAddr_arr rfl Tryz.underlying130 Tryz.sizeOf129 rfl rfl hk10.1 hk10.2) ?_
      refine h_t 9 rfl rfl (by kernel_rfl) (fun _ _ _ h => h) ⟨hK, hE⟩ rfl (fun W hW => r_load rfl Tryz.isAgg129 rfl (hcell W hW.1)) ?_
      refine h_t 10 rfl rfl (by kernel_rfl) (fun _ _ _ h => h) ⟨hK, hE⟩ rfl (fun W hW => r_move rfl) ?_
      refine h_t 11 rfl rfl (by kernel_rfl) (fun _ _ _ h => h) ⟨hK, hE⟩ rfl (fun W hW => r_load_blk_agg rfl Tryz.isAgg46 Tryz.sizeOf46 rfl (hW.1.get 2 rfl) rfl) ?_
      refine h_t 12 rfl rfl (by kernel_rfl) (fun _ _ _ h => h) ⟨hK, hE⟩ rfl (fun W hW => r_load_blk_agg rfl Tryz.isAgg46 Tryz.sizeOf46 rfl (hW.1.get 1 rfl) rfl) ?_
      refine h_by 13 rfl rfl (by kernel_rfl) rfl (r_call rfl rfl hfn hname hbody) (hcall _ xb mb A st m Ak ck Al cl Bk dk Bl dl (Has.right (L1 := [_, _, _]) hL) (hsk.keep RStr.kept (hE.cells hNC)) (hsl.keep RInt.kept (hE.cells hNC)) (htk.keep RStr.kept (hE.cells hNC)) (htl.keep RInt.kept (hE.cells hNC))) ?_
      rintro _ w ⟨rfl, hX, hY⟩
      replace hL := Has.sol [_, _, _] hL hX hY
      replace hE := hE.trans hX
      have hK := hL.sub (.cons_cons _ (.cons_cons _ (.cons_cons _ (.cons_cons _ (.cons _ .slnil)))))
      refine ⟨_, rfl, ⟨hK, hE⟩, ?_⟩
      refine h_t 14 rfl rfl (by kernel_rfl) (fun _ _ _ h => h) ⟨hK, hE⟩ rfl (fun W hW => r_pick rfl rfl) ?_
      refine h_t 15 rfl rfl (by kernel_rfl) (fun _ _ _ h => h) ⟨hK, hE⟩ rfl (fun W hW => r_assign rfl) ?_
      refine h_done (by kernel_rfl) ?_
      refine c_ret ?_
      exact ⟨ret_bool rfl (by simp only [hr15, hr34, Bool.true_and, Bool.and_true, Bool.false_and, Bool.and_false, Bool.true_or, Bool.or_true, Bool.false_or, Bool.or_false, Bool.not_true, Bool.not_false, cond_true, cond_false]), hE, Has.right (L1 := [_, _, _]) hL⟩
    · have hr34 := hb
      replace hb := of_decide_eq_false hb
      rw [if_neg hb] at hd
      rw [hd]
      refine h_n 6 rfl rfl (by kernel_rfl) (fun _ _ _ h => h) ⟨hK, hE⟩ rfl ?_
      refine h_n 7 rfl rfl (by kernel_rfl) (fun _ _ _ h => h) ⟨hK, hE⟩ rfl ?_
      refine h_n 8 rfl rfl (by kernel_rfl) (fun _ _ _ h => h) ⟨hK, hE⟩ rfl ?_
      refine h_n 9 rfl rfl (by kernel_rfl) (fun _ _ _ h => h) ⟨hK, hE⟩ rfl ?_
      refine h_n 10 rfl rfl (by kernel_rfl) (fun _ _ _ h => h) ⟨hK, hE⟩ rfl ?_
      refine h_n 11 rfl rfl (by kernel_rfl) (fun _ _ _ h => h) ⟨hK, hE⟩ rfl ?_
      refine h_n 12 rfl rfl (by kernel_rfl) (fun _ _ _ h => h) ⟨hK, hE⟩ rfl ?_
      refine h_n 13 rfl rfl (by kernel_rfl) (fun _ _ _ h => h) ⟨hK, hE⟩ rfl ?_
      refine h_t 14 rfl rfl (by kernel_rfl) (fun _ _ _ h => h) ⟨hK, hE⟩ rfl (fun W hW => r_pick rfl rfl) ?_
      refine h_t 15 rfl rfl (by kernel_rfl) (fun _ _ _ h => h) ⟨hK, hE⟩ rfl (fun W hW => r_assign rfl) ?_
      refine h_done (by kernel_rfl) ?_
      refine c_ret ?_
      exact ⟨ret_bool rfl (by simp only [hr15, hr34, Bool.true_and, Bool.and_true, Bool.false_and, Bool.and_false, Bool.true_or, Bool.or_true, Bool.false_or, Bool.or_false, Bool.not_true, Bool.not_false, cond_true, cond_false]), hE, Has.right (L1 := [_, _, _]) hL⟩
structure GraphOk (g : List GNode) : Prop where
  fits : Fits g
  may : ∀ x ∈ g, mayB g x = true
section
variable {g : List GNode} {x : GNode}
theorem GraphOk.odd (h : GraphOk g) (hx : x ∈ g) : oddB g.length x = false := by
  have := h.may x hx
  unfold mayB at this
  rw [Bool.and_eq_true, Bool.not_eq_true'] at this
  exact this.1
theorem GraphOk.kind (h : GraphOk g) (hx : x ∈ g) : kindB g x = true := by
  have := h.may x hx
  unfold mayB at this
  rw [Bool.and_eq_true] at this
  exact this.2
theorem GraphOk.inn (h : GraphOk g) (hx : x ∈ g) {k : Int} (hk : k ∈ x.l) : 0 ≤ k ∧ k < g.length := outB_no (any_false (odd_l (h.odd hx)) hk)
inductive NodeIs (g : List GNode) (x : GNode) : Prop
  | bare (h : x.kind = 1 ∨ x.kind = 2 ∨ x.kind = 3 ∨ x.kind = 4) (hl : x.l = []) (hk : x.keys = []) (hn : x.name = ⟨#[]⟩) (hm : x.num = 0)
  | tag (h : x.kind = 5) (hl : x.l = []) (hk : x.keys = []) (hm : x.num = 0)
  | rcd (h : x.kind = 7) (hl : x.l.length = x.keys.length) (hr : risesB x.keys = true) (hn : x.name = ⟨#[]⟩) (hm : x.num = 0)
  | union (h : x.kind = 8) (hl : ∀ k ∈ x.l, (gat g k).kind ≠ 8) (h2 : 2 ≤ x.l.length) (hd : x.l.Nodup) (hk : x.keys = []) (hn : x.name = ⟨#[]⟩) (hm : x.num = 0)
  | var (h : x.kind = 9) (hl : x.l.length = 1) (hk : x.keys = []) (hn : x.name = ⟨#[]⟩)
theorem GraphOk.is (h : GraphOk g) (hx : x ∈ g) : NodeIs g x := by
  have h1 := h.odd hx
  have h2 := h.kind hx
  unfold oddB at h1
  rw [Bool.or_eq_false_iff, Bool.or_eq_false_iff, Bool.or_eq_false_iff] at h1
  obtain ⟨⟨⟨h11, h12⟩, h13⟩, h14⟩ := h1
  have keys : x.kind ≠ 7 → x.keys = [] := fun h => by
    simp [h] at h14
    exact h14
  have num : x.kind ≠ 9 → x.num = 0 := fun h => by
    simp [h] at h12
    exact h12
  have name : x.kind ≠ 5 → x.name = ⟨#[]⟩ := fun h => by
    simp [h] at h13
    exact h13
  unfold kindB at h2
  cases hb : bareB x with
  | true =>
    rw [hb] at h2
    simp [bareB] at hb h2
    exact .bare hb h2 (keys (by omega)) (name (by omega)) (num (by omega))
  | false =>
    rw [hb, cond_false] at h2
    by_cases h5 : x.kind = 5
    · simp [h5] at h2
      exact .tag h5 h2.1 (keys (by omega)) (num (by omega))
    · by_cases h7 : x.kind = 7
      · simp only [h7, decide_true, decide_false, cond_true, cond_false, show ¬ (7 : Int) = 5 by decide, Bool.and_eq_true] at h2
        exact .rcd h7 (by have := h2.1.1.1; simp at this; omega) h2.1.2 (name (by omega)) (num (by omega))
      · by_cases h8 : x.kind = 8
        · simp only [h8, decide_true, decide_false, cond_true, cond_false, show ¬ (8 : Int) = 5 by decide, show ¬ (8 : Int) = 7 by decide, Bool.and_eq_true] at h2
          refine .union h8 (fun k hk => ?_) (by have := h2.1.2; simp at this; omega) (by simpa [diffB] using h2.2) (keys (by omega)) (name (by omega)) (num (by omega))
          have := List.all_eq_true.1 h2.1.1 k hk
          simpa using this
        · by_cases h9 : x.kind = 9
          · simp only [h9, decide_true, decide_false, cond_true, cond_false, show ¬ (9 : Int) = 5 by decide, show ¬ (9 : Int) = 7 by decide, show ¬ (9 : Int) = 8 by decide, Bool.and_eq_true] at h2
            exact .var h9 (by have := h2.2; simp at this; omega) (keys (by omega)) (name (by omega))
          · simp [h5, h7, h8, h9] at h2
theorem NodeIs.plain (h : NodeIs g x) (h8 : x.kind ≠ 8) : PlainN x := by
  rcases h with ⟨h, _⟩ | ⟨h, _⟩ | ⟨h, hl, _⟩ | ⟨h, _⟩ | ⟨h, hl, _⟩
  · rcases h with h | h | h | h <;> simp [PlainN, h]
  · simp [PlainN, h]
  · simp [PlainN, h, hl]
  · exact absurd h h8
  · simp [PlainN, h, hl]
theorem GraphOk.members (h : GraphOk g) {n k : Int} (hk : k ∈ membersG g n) : 0 ≤ k ∧ k < g.length ∧ (gat g k).kind ≠ 8 := by
  unfold membersG at hk
  split at hk
  · simp at hk
  · rename_i hn
    have hmem : gat g n ∈ g := gat_mem' (by omega) (by omega)
    split at hk
    · rename_i h8
      obtain ⟨h1, h2⟩ := h.inn hmem hk
      refine ⟨h1, h2, ?_⟩
      rcases h.is hmem with ⟨h, _⟩ | ⟨h, _⟩ | ⟨h, _⟩ | ⟨_, hl, _⟩ | ⟨h, _⟩
      · omega
      · omega
      · omega
      · exact hl k hk
      · omega
    · rw [List.mem_singleton] at hk
      subst hk
      rename_i h8
      exact ⟨by omega, by omega, h8⟩
end
theorem pick_calls (w0 : World) (xb mb : Nat) (Ag : Option Addr) (cg : Nat) (g : List GNode) (hg : Nodes w0 Ag cg g) (hok : GraphOk g) (st : Bool) (m : PM) (a b : Int) (ha : 0 ≤ a) (han : a < g.length) (ha8 : (gat g a).kind ≠ 8) (hL : Has w0 (Sol xb mb (.slice Ag g.length cg) st m)) :
    Calls Tryz.prog 76 [.pointer (some ⟨xb, 0, none⟩), .int .i64 a, .int .i64 b].toArray w0 fun en w' => en = .returned (.int .i64 (pickM g st m a b).1) ∧ Ext (fun k => k = mb) w0 w' ∧ Has w' (Sol xb mb (.slice Ag g.length cg) st (pickM g st m a b).2) := by
  have hE : Ext (fun k => k = mb) w0 w0 := Ext.refl _ _
  have hNC := noCells_map (hL.get 1 rfl)
  obtain ⟨Ak, ck, Al, cl, hcell, hsk, hsl⟩ := hg.node a ha han
  have hplain := (hok.is (gat_mem' ha han)).plain ha8
  obtain ⟨p, hp⟩ : ∃ p : PM → Int → Bool × PM, p = fun m k => doesM st m (gat g a) (gat g k) := ⟨_, rfl⟩
  have hpick : pickM g st m a b = match findS p 0 m (membersG g b) with
    | (some i, m') => ((i : Int), m')
    | (none, m') => if (gat g a).kind = 9 then (if (grant m' (iat (gat g a).l 0, b)).1 then (-1, (grant m' (iat (gat g a).l 0, b)).2) else (-2, (grant m' (iat (gat g a).l 0, b)).2)) else (-2, m') := by rw [hp]; rfl
  refine calls [6] Tryz.func76 rfl rfl rfl rfl ?_
  refine c_seq ?_
  refine c_ops ?_
  refine l_val rfl rfl rfl (r_assign rfl) ?_
  refine l_nil ?_
  refine c_seq ?_
  refine c_ops ?_
  refine l_val rfl rfl rfl (r_move rfl) ?_
  refine l_val rfl rfl rfl (r_nilCheck rfl rfl) ?_
  refine l_val rfl rfl rfl (r_fieldAddr (n := 0) rfl Tryz.underlying111 rfl Tryz.sizeOf22 rfl) ?_
  refine l_val rfl rfl rfl (r_load_blk rfl Tryz.isAgg22 rfl (hL.get 0 rfl) rfl) ?_
  refine l_val rfl rfl rfl (r_move rfl) ?_
  refine l_val rfl rfl rfl (r_indexAddr_sl rfl Tryz.underlying22 Tryz.sizeOf46 rfl hg.is rfl ha han) ?_
  refine l_val rfl rfl rfl (r_load_agg (vs := nodeCells (gat g a) Ak ck Al cl) rfl Tryz.isAgg46 Tryz.sizeOf46 rfl (fun j v hj => hE.cells hNC _ _ (hcell j v hj))) ?_
  refine l_new rfl rfl rfl (n_alloc rfl Tryz.zeroValue46 hL hE) ?_
  rintro _ w ⟨b7, rfl, hb7, hL, hE, hX⟩
  refine l_new_do rfl rfl (r_store 0 rfl Tryz.sizeOf46 rfl hL hE rfl rfl rfl rfl (fun h => absurd h (Nat.not_lt.2 hb7))) ?_
  rintro w ⟨hL, hE, hz, hk⟩
  refine l_nil ?_
  refine c_seq ?_
  refine c_seq ?_
  refine c_ops ?_
  refine l_val rfl rfl rfl (r_move rfl) ?_
  refine l_val rfl rfl rfl (r_nilCheck rfl rfl) ?_
  refine l_val rfl rfl rfl (r_fieldAddr (n := 0) rfl Tryz.underlying111 rfl Tryz.sizeOf22 rfl) ?_
  refine l_val rfl rfl rfl (r_load_blk rfl Tryz.isAgg22 rfl (hL.get 1 rfl) rfl) ?_
  refine l_val rfl rfl rfl (r_move rfl) ?_
  refine l_by rfl rfl rfl (r_call rfl rfl Tryz.func43 rfl rfl) (Members_calls _ Ag cg g (hg.keep RNode.kept (hE.cells hNC)) hok.fits b) ?_
  rintro _ w ⟨v, rfl, hrow, hX⟩
  replace hL := hL.addRow hX hrow
  replace hE := hE.step0 hX
  obtain ⟨A2, c2, rfl, hmem, _⟩ := Sl.ofInts hrow
  obtain ⟨bm, hL⟩ : ∃ bm, Has w (.row bm _ _ _ _ _ :: _) := ⟨_, hL⟩
  refine ⟨_, rfl, ?_⟩
  refine l_val rfl rfl rfl (r_len rfl Tryz.underlying26 rfl) ?_
  refine l_val rfl rfl rfl (r_move rfl) ?_
  refine l_nil ?_
  refine c_block ?_
  refine c_loop [6, 8, 9, 24, 25, 26, 27, 28, 29, 30, 31, 32, 33, 34, 35, 36, 37, 38, 39, 40] (fun m1 e w => ∃ (k : Nat) (m' : PM), k ≤ (membersG g b).length ∧ m1 = (membersG g b).length - k ∧ e 24 = .int .i64 k ∧ findS p 0 m (membersG g b) = findS p k m' ((membersG g b).drop k) ∧ Has w ([.row bm 3 1 (.slice A2 (membersG g b).length c2) (membersG g b).length ((membersG g b).map (Value.int .i64)), .blk b7 (.cells (nodeCells (gat g a) Ak ck Al cl).toArray 46 (0, 0))] ++ Sol xb mb (.slice Ag g.length cg) st m') ∧ Ext (fun k => k = mb) w0 w) (membersG g b).length ?_ ?_
  · exact ⟨0, m, Nat.zero_le _, rfl, rfl, rfl, hL, hE⟩
  intro m1 e w hI
  obtain ⟨k, m', hk, hm, h24, hfind, hL, hE⟩ := hI
  refine c_know h24 ?_
  refine c_seq ?_
  refine c_ops ?_
  refine l_val rfl rfl rfl (r_lss rfl rfl rfl) ?_
  refine l_nil ?_
  refine c_seq ?_
  refine c_cond rfl (fun hb => ?_) (fun hb => ?_)
  · have hr25 := hb
    replace hb := of_decide_eq_true hb
    have hkn : k < (membersG g b).length := by omega
    have hxk := iat_nat hkn
    have hkk := hok.members (List.mem_of_getElem? hxk)
    have hstep := findS_step p m' (membersG g b) k _ hxk
    obtain ⟨Bk, dk, Bl, dl, hcell2, htk, htl⟩ := hg.node _ hkk.1 hkk.2.1
    refine c_skip ?_
    refine c_seq ?_
    refine c_block ?_
    refine c_seq ?_
 
    refine c_ops ?_
    refine l_val rfl rfl rfl (r_move rfl) ?_
    refine l_val rfl rfl rfl (r_indexAddr_sl rfl Tryz.underlying26 Tryz.sizeOf3 rfl hmem.is rfl (by omega) (by omega)) ?_
    refine l_val rfl rfl rfl (r_load rfl Tryz.isAgg3 rfl ((Sl.ints_at (hL.row 0 rfl)).int k (by omega) (by omega))) ?_
    refine l_val rfl rfl rfl (r_assign rfl) ?_
    refine l_val rfl rfl rfl (r_assign rfl) ?_
    refine l_nil ?_
    refine c_seq ?_
 
    refine c_draw mixed (hL.sub (.cons_cons _ (.cons_cons _ (.cons_cons _ (.cons _ .slnil))))) hE ?_
    replace hL := hL.drew
    replace hE := hE.drew
    have hK := hL.sub (.cons_cons _ (.cons_cons _ (.cons_cons _ (.cons _ .slnil))))
    refine h_t 0 rfl rfl (by kernel_rfl) (fun _ _ _ h => h) ⟨hK, hE⟩ rfl (fun W hW => r_move rfl) ?_
    refine h_t 1 rfl rfl (by kernel_rfl) (fun _ _ _ h => h) ⟨hK, hE⟩ rfl (fun W hW => r_load_blk_agg rfl Tryz.isAgg46 Tryz.sizeOf46 rfl (hW.1.get 1 rfl) rfl) ?_
    refine h_t 2 rfl rfl (by kernel_rfl) (fun _ _ _ h => h) ⟨hK, hE⟩ rfl (fun W hW => r_move rfl) ?_
    refine h_t 3 rfl rfl (by kernel_rfl) (fun _ _ _ h => h) ⟨hK, hE⟩ rfl (fun W hW => r_nilCheck rfl rfl) ?_
    refine h_t 4 rfl rfl (by kernel_rfl) (fun _ _ _ h => h) ⟨hK, hE⟩ rfl (fun W hW => r_fieldAddr (n := 0) rfl Tryz.underlying111 rfl Tryz.sizeOf22 rfl) ?_
    refine h_t 5 rfl rfl (by kernel_rfl) (fun _ _ _ h => h) ⟨hK, hE⟩ rfl (fun W hW => r_load_blk rfl Tryz.isAgg22 rfl (hW.1.get 2 rfl) rfl) ?_
    refine h_t 6 rfl rfl (by kernel_rfl) (fun _ _ _ h => h) ⟨hK, hE⟩ rfl (fun W hW => r_move rfl) ?_
    refine h_t 7 rfl rfl (by kernel_rfl) (fun _ _ _ h => h) ⟨hK, hE⟩ rfl (fun W hW => r_indexAddr_sl rfl Tryz.underlying22 Tryz.sizeOf46 rfl hg.is rfl hkk.1 hkk.2.1) ?_
    refine h_t 8 rfl rfl (by kernel_rfl) (fun _ _ _ h => h) ⟨hK, hE⟩ rfl (fun W hW => r_load_agg (vs := nodeCells (gat g (iat (membersG g b) k)) Bk dk Bl dl) rfl Tryz.isAgg46 Tryz.sizeOf46 rfl (fun j v hj => (hW.2).cells hNC _ _ (hcell2 j v hj))) ?_
    refine h_by 9 rfl rfl (by kernel_rfl) rfl (r_call rfl rfl Tryz.func93 rfl rfl) (does_calls _ xb mb (.slice Ag g.length cg) st m' (gat g a) (gat g (iat (membersG g b) k)) hplain ((hok.is (gat_mem' hkk.1 hkk.2.1)).plain hkk.2.2) Ak ck Al cl Bk dk Bl dl (Has.right (L1 := [_, _]) hL) (hsk.keep RStr.kept (hE.cells hNC)) (hsl.keep RInt.kept (hE.cells hNC)) (htk.keep RStr.kept (hE.cells hNC)) (htl.keep RInt.kept (hE.cells hNC))) ?_
    rintro _ w ⟨rfl, hX, hY⟩
    replace hL := Has.sol [_, _] hL hX hY
    replace hE := hE.trans hX
    have hK := hL.sub (.cons_cons _ (.cons_cons _ (.cons_cons _ (.cons _ .slnil))))
    refine ⟨_, rfl, ⟨hK, hE⟩, ?_⟩
    refine h_done (by kernel_rfl) ?_
    refine c_cond rfl (fun hb => ?_) (fun hb => ?_)
    · have hr38 := hb
      have hp1 : (p m' (iat (membersG g b) k)).1 = true := by rw [hp]; exact hb
      rw [hfind, hstep, if_pos hp1] at hpick
      have hp2 : (p m' (iat (membersG g b) k)).2 = (doesM st m' (gat g a) (gat g (iat (membersG g b) k))).2 := by rw [hp]
      rw [hp2] at hpick
      refine c_seq ?_
   
      refine c_ops ?_
      refine l_val rfl rfl rfl (r_move rfl) ?_
      refine l_val rfl rfl rfl (r_assign rfl) ?_
      refine l_nil ?_
      refine c_ret ?_
      rw [hpick]
      exact ⟨ret_int rfl rfl, hE, Has.right (L1 := [_, _]) hL⟩
    · have hr38 := hb
      have hp1 : ¬ (p m' (iat (membersG g b) k)).1 = true := by rw [hp]; show ¬ (doesM st m' (gat g a) (gat g (iat (membersG g b) k))).1 = true; rw [hb]; decide
      have hp2 : (p m' (iat (membersG g b) k)).2 = (doesM st m' (gat g a) (gat g (iat (membersG g b) k))).2 := by rw [hp]
      have hfind2 : findS p 0 m (membersG g b) = findS p (k + 1) (doesM st m' (gat g a) (gat g (iat (membersG g b) k))).2 ((membersG g b).drop (k + 1)) := by rw [hfind, hstep, if_neg hp1, hp2]
      refine c_skip ?_
   
      refine c_ops ?_
      refine l_val rfl rfl rfl (r_add rfl rfl rfl) ?_
      refine l_val rfl rfl rfl (r_move rfl) ?_
      refine l_nil ?_
      refine ⟨by repeat (first | exact Agree.over _ _ _ | exact Agree.refl _ _ | (refine Agree.puto ?_ _ _ rfl) | (refine Agree.put ?_ _ _ rfl) | (refine Agree.sub ?_ rfl)), ?_⟩
      exact ⟨(membersG g b).length - (k + 1), by omega, k + 1, _, by omega, rfl, by show Value.int .i64 (IntKind.i64.wrap ((k : Int) + 1)) = _; rw [wrap_succ hkn hmem.max], hfind2, hL, hE⟩
  · have hr25 := hb
    replace hb := of_decide_eq_false hb
    have hkn : (membersG g b).length ≤ k := by omega
    rw [findS_end _ _ _ _ hkn] at hfind
    rw [hfind] at hpick
    refine c_exit ?_
    refine c_seq ?_
    refine c_seq ?_
 
    refine c_ops ?_
    refine l_val rfl rfl rfl (r_fieldAddr (n := 0) rfl Tryz.underlying46 rfl Tryz.sizeOf3 rfl) ?_
    refine l_val rfl rfl rfl (r_load_blk rfl Tryz.isAgg3 rfl (hL.get 1 rfl) rfl) ?_
    refine l_val rfl rfl rfl (r_eql rfl rfl rfl) ?_
    refine l_val rfl rfl rfl (r_move rfl) ?_
    refine l_case 44 rfl (fun hb => ?_) (fun hb => ?_)
    · have hr44 := hb
      replace hb := of_decide_eq_true hb
      have h9 := hb
      simp only [if_pos h9] at hpick
      refine l_val rfl rfl rfl (r_move rfl) ?_
      refine l_val rfl rfl rfl (r_fieldAddr (n := 0) rfl Tryz.underlying46 rfl Tryz.sizeOf26 rfl) ?_
      refine l_val rfl rfl rfl (r_load_blk rfl Tryz.isAgg26 rfl (hL.get 1 rfl) rfl) ?_
      have hl1 : (gat g a).l.length = 1 := by rcases hplain with h | h | h | h | h | ⟨h, h1⟩ | ⟨h, h1⟩ <;> first | exact h1 | omega
      refine l_val rfl rfl rfl (r_indexAddr_sl rfl Tryz.underlying26 Tryz.sizeOf3 rfl hsl.is rfl (by decide) (by omega)) ?_
      refine l_val rfl rfl rfl (r_load rfl Tryz.isAgg3 rfl ((hsl.keep RInt.kept ((hE).cells hNC)).int 0 (by decide) (by omega))) ?_
      refine l_val rfl rfl rfl (r_move rfl) ?_
      refine l_val rfl rfl rfl (r_build rfl rfl (built_pair _ _)) ?_
      refine l_by rfl rfl rfl (r_call rfl rfl Tryz.func91 rfl rfl) (granted_calls _ xb mb (.slice Ag g.length cg) st _ (iat (gat g a).l 0, b) (Has.right (L1 := [_, _]) hL)) ?_
      rintro _ w ⟨rfl, hX, hY⟩
      replace hL := Has.sol [_, _] hL hX hY
      replace hE := hE.trans hX
      refine ⟨_, rfl, ?_⟩
      refine l_val rfl rfl rfl (r_pick rfl rfl) ?_
      refine l_nil ?_
      refine c_cond rfl (fun hb => ?_) (fun hb => ?_)
      · have hr53 := hb
        simp only [if_pos hb] at hpick
        refine c_seq ?_
     
        refine c_ops ?_
        refine l_val rfl rfl rfl (r_assign rfl) ?_
        refine l_nil ?_
        refine c_ret ?_
        rw [hpick]
        exact ⟨ret_int rfl rfl, hE, Has.right (L1 := [_, _]) hL⟩
      · have hr53 := hb
        simp only [hb, Bool.false_eq_true, if_false] at hpick
        refine c_skip ?_
        refine c_seq ?_
     
        refine c_ops ?_
        refine l_val rfl rfl rfl (r_assign rfl) ?_
        refine l_nil ?_
        refine c_ret ?_
        rw [hpick]
        exact ⟨ret_int rfl rfl, hE, Has.right (L1 := [_, _]) hL⟩
    · have hr44 := hb
      replace hb := of_decide_eq_false hb
      simp only [if_neg hb] at hpick
      refine l_not rfl rfl rfl ?_
      refine l_not rfl rfl rfl ?_
      refine l_not rfl rfl rfl ?_
      refine l_not rfl rfl rfl ?_
      refine l_not rfl rfl rfl ?_
      refine l_not rfl rfl rfl ?_
      refine l_not rfl rfl rfl ?_
      refine l_not rfl rfl rfl ?_
      refine l_val rfl rfl rfl (r_pick rfl rfl) ?_
      refine l_nil ?_
      refine c_no rfl ?_
      refine c_skip ?_
      refine c_seq ?_
   
      refine c_ops ?_
      refine l_val rfl rfl rfl (r_assign rfl) ?_
      refine l_nil ?_
      refine c_ret ?_
      rw [hpick]
      exact ⟨ret_int rfl rfl, hE, Has.right (L1 := [_, _]) hL⟩
end Go.Proofs.YtndophlnapjkhaaGreatDoor.Vc
namespace Go.Proofs.YtndophlnapjkhaaGreatDoor.Vc
open Go Go.RowKit
set_option linter.unusedVariables false
set_option linter.unusedSimpArgs false
theorem holds1_calls (w0 : World) (xb mb : Nat) (Ag : Option Addr) (cg : Nat) (g : List GNode) (hg : Nodes w0 Ag cg g) (hok : GraphOk g) (st : Bool) (m : PM) (pb xp : Nat) (pa pc : Int) (s : Int) (hs : 0 ≤ s) (hsn : s < g.length) (hs8 : (gat g s).kind ≠ 8) (hL : Has w0 ([.blk pb (.cells #[.int .i64 pa, .int .i64 pc] 87 (0, 0)), .blk xp (.cells #[.pointer (some ⟨xb, 0, none⟩)] 105 (0, 0))] ++ Sol xb mb (.slice Ag g.length cg) st  m)) :
    Calls Tryz.prog 106 [.int .i64 s, .pointer (some ⟨xp, 0, none⟩), .pointer (some ⟨pb, 0, none⟩)].toArray w0 fun en w' => en = .returned (.bool (decide ((pickM g st m s pc).1 = -2))) ∧ Ext (fun k => k = mb) w0 w' ∧ Has w' ([.blk pb (.cells #[.int .i64 pa, .int .i64 pc] 87 (0, 0)), .blk xp (.cells #[.pointer (some ⟨xb, 0, none⟩)] 105 (0, 0))] ++ Sol xb mb (.slice Ag g.length cg) st  (pickM g st m s pc).2) := by
  have hE : Ext (fun k => k = mb) w0 w0 := Ext.refl _ _
  have hNC := noCells_map (hL.get 3 rfl)
  refine calls [4] Tryz.func106 rfl rfl rfl rfl ?_
  refine c_seq ?_
  refine c_ops ?_
  refine l_val rfl rfl rfl (r_assign rfl) ?_
  refine l_nil ?_
  refine c_seq ?_
  refine c_ops ?_
  refine l_val rfl rfl rfl (r_load_blk rfl Tryz.isAgg105 rfl (hL.get 1 rfl) rfl) ?_
  refine l_val rfl rfl rfl (r_move rfl) ?_
  refine l_val rfl rfl rfl (r_fieldAddr (n := 0) rfl Tryz.underlying87 rfl Tryz.sizeOf3 rfl) ?_
  refine l_val rfl rfl rfl (r_load_blk rfl Tryz.isAgg3 rfl (hL.get 0 rfl) rfl) ?_
  refine l_by rfl rfl rfl (r_call rfl rfl Tryz.func76 rfl rfl) (pick_calls _ xb mb Ag cg g (hg.keep RNode.kept (hE.cells hNC)) hok st m s pc hs hsn hs8 (Has.right (L1 := [_, _]) hL)) ?_
  rintro _ w ⟨rfl, hX, hY⟩
  replace hL := Has.sol [_, _] hL hX hY
  replace hE := hE.trans hX
  refine ⟨_, rfl, ?_⟩
  refine l_val rfl rfl rfl (r_eql rfl rfl rfl) ?_
  refine l_val rfl rfl rfl (r_assign rfl) ?_
  refine l_nil ?_
  refine c_ret ?_
  exact ⟨ret_bool rfl rfl, hE, hL⟩
theorem holds_calls (w0 : World) (xb mb : Nat) (Ag : Option Addr) (cg : Nat) (g : List GNode) (hg : Nodes w0 Ag cg g) (hok : GraphOk g) (st : Bool) (m : PM) (p : Int × Int) (hL : Has w0 (Sol xb mb (.slice Ag g.length cg) st  m)) :
    Calls Tryz.prog 92 [.pointer (some ⟨xb, 0, none⟩), enc2 p].toArray w0 fun en w' => en = .returned (.bool (holdsM g st m p).1) ∧ Ext (fun k => k = mb) w0 w' ∧ Has w' (Sol xb mb (.slice Ag g.length cg) st  (holdsM g st m p).2) := by
  have hE : Ext (fun k => k = mb) w0 w0 := Ext.refl _ _
  have hNC := noCells_map (hL.get 1 rfl)
  refine calls [4] Tryz.func92 rfl rfl rfl rfl ?_
  refine c_seq ?_
  refine c_ops ?_
  refine l_new rfl rfl rfl (n_box rfl hL hE) ?_
  rintro _ w ⟨b2, rfl, hb2, hL, hE, hX⟩
  refine l_new rfl rfl rfl (n_box rfl hL hE) ?_
  rintro _ w ⟨b3, rfl, hb3, hL, hE, hX⟩
  refine l_val rfl rfl rfl (r_assign rfl) ?_
  refine l_nil ?_
  refine c_seq ?_
  refine c_draw mixed (hL.sub (.cons_cons _ (.cons_cons _ (.cons_cons _ (.cons _ .slnil))))) hE ?_
  replace hL := hL.drew
  replace hE := hE.drew
  have hK := hL.sub (.cons_cons _ (.cons_cons _ (.cons_cons _ (.cons _ .slnil))))
  refine h_t 0 rfl rfl (by kernel_rfl) (fun _ _ _ h => h) ⟨hK, hE⟩ rfl (fun W hW => r_load_blk rfl Tryz.isAgg105 rfl (hW.1.get 1 rfl) rfl) ?_
  refine h_t 1 rfl rfl (by kernel_rfl) (fun _ _ _ h => h) ⟨hK, hE⟩ rfl (fun W hW => r_nilCheck rfl rfl) ?_
  refine h_t 2 rfl rfl (by kernel_rfl) (fun _ _ _ h => h) ⟨hK, hE⟩ rfl (fun W hW => r_fieldAddr (n := 0) rfl Tryz.underlying111 rfl Tryz.sizeOf22 rfl) ?_
  refine h_t 3 rfl rfl (by kernel_rfl) (fun _ _ _ h => h) ⟨hK, hE⟩ rfl (fun W hW => r_load_blk rfl Tryz.isAgg22 rfl (hW.1.get 2 rfl) rfl) ?_
  refine h_t 4 rfl rfl (by kernel_rfl) (fun _ _ _ h => h) ⟨hK, hE⟩ rfl (fun W hW => r_fieldAddr (n := 0) rfl Tryz.underlying87 rfl Tryz.sizeOf3 rfl) ?_
  refine h_t 5 rfl rfl (by kernel_rfl) (fun _ _ _ h => h) ⟨hK, hE⟩ rfl (fun W hW => r_load_blk rfl Tryz.isAgg3 rfl (hW.1.get 0 rfl) rfl) ?_
  refine h_t 7 rfl rfl (by kernel_rfl) (fun _ _ _ h => h) ⟨hK, hE⟩ rfl (fun W hW => r_makeFunc rfl) ?_
  refine h_by 6 rfl rfl (by kernel_rfl) rfl (r_call rfl rfl Tryz.func43 rfl rfl) (Members_calls _ Ag cg g (hg.keep RNode.kept (hE.cells hNC)) hok.fits p.1) ?_
  rintro _ w ⟨v, rfl, hrow, hX⟩
  replace hL := hL.ext0 hX
  replace hE := hE.step0 hX
  obtain ⟨A2, c2, rfl, hmem, _⟩ := Sl.ofInts hrow
  have hK := hL.sub (.cons_cons _ (.cons_cons _ (.cons_cons _ (.cons _ .slnil))))
  refine ⟨_, rfl, ⟨hK, hE⟩, ?_⟩
  have hNC2 := noCells_map (hL.get 3 rfl)
  have hgw := hg.keep RNode.kept (hE.cells hNC)
  have hT : Tests Tryz.prog (fun m W => Has W ([.blk b3 (.cells #[.int .i64 p.1, .int .i64 p.2] 87 (0, 0)), .blk b2 (.cells #[.pointer (some ⟨xb, 0, none⟩)] 105 (0, 0))] ++ Sol xb mb (.slice Ag g.length cg) st m) ∧ Nodes W Ag cg g) (fun k => k = mb) (D1 (fun W s cs => RInt W s cs ∧ (0 ≤ s ∧ s < g.length ∧ (gat g s).kind ≠ 8))) (fun m s => (decide ((pickM g st m s p.2).1 = -2), (pickM g st m s p.2).2)) (.func (.func 106) #[] #[.pointer (some ⟨b2, 0, none⟩), .pointer (some ⟨b3, 0, none⟩)]) := ⟨_, _, _, _, _, rfl, Tryz.func106, rfl, rfl, fun m s v W hs hv => (by
    obtain rfl : v = .int .i64 s := by injection hv.1
    exact (holds1_calls W xb mb Ag cg g hs.2 hok st m b3 b2 p.1 p.2 s hv.2.1 hv.2.2.1 hv.2.2.2 hs.1).mono (fun en w' ⟨h1, h2, h3⟩ => ⟨h1, h2, h3, hs.2.keep RNode.kept (h2.cells (noCells_map (hs.1.get 3 rfl)))⟩))⟩
  refine h_by 8 rfl rfl (by kernel_rfl) rfl (r_call rfl rfl Tryz.func42 rfl rfl) (ContainsFunc_int (fun m W => Has W ([.blk b3 (.cells #[.int .i64 p.1, .int .i64 p.2] 87 (0, 0)), .blk b2 (.cells #[.pointer (some ⟨xb, 0, none⟩)] 105 (0, 0))] ++ Sol xb mb (.slice Ag g.length cg) st m) ∧ Nodes W Ag cg g) (fun k => k = mb) (fun W s cs => RInt W s cs ∧ (0 ≤ s ∧ s < g.length ∧ (gat g s).kind ≠ 8)) (fun m s => (decide ((pickM g st m s p.2).1 = -2), (pickM g st m s p.2).2)) _ _ _ _ (membersG g p.1) _ m (fun W hW => (hmem.keep RInt.kept (hW.cells hNC2)).and (fun s hs => hok.members hs)) hT ⟨hL, hgw⟩) ?_
  rintro _ w ⟨rfl, hX, hY⟩
  replace hL := hY.1
  replace hE := hE.trans hX
  have hK := hL.sub (.cons_cons _ (.cons_cons _ (.cons_cons _ (.cons _ .slnil))))
  refine ⟨_, rfl, ⟨hK, hE⟩, ?_⟩
  refine h_t 9 rfl rfl (by kernel_rfl) (fun _ _ _ h => h) ⟨hK, hE⟩ rfl (fun W hW => r_not rfl rfl) ?_
  refine h_t 10 rfl rfl (by kernel_rfl) (fun _ _ _ h => h) ⟨hK, hE⟩ rfl (fun W hW => r_assign rfl) ?_
  refine h_done (by kernel_rfl) ?_
  refine c_ret ?_
  exact ⟨ret_bool rfl rfl, hE, Has.right (L1 := [_, _]) hL⟩
end Go.Proofs.YtndophlnapjkhaaGreatDoor.Vc
namespace Go.Proofs.YtndophlnapjkhaaGreatDoor.Vc
open Go Go.RowKit
set_option linter.unusedVariables false
set_option linter.unusedSimpArgs false
@[reducible] def Post.scope (Q : Post) : Post
  | .goto _, _, _ => False
  | x, e, w => Q x e w
theorem c_scope {P : Program} {n : Nat} {Q : Post} {e : Env} {w : World} {c : Code} (h : cwp P n c (Post.scope Q) e w) : cwp P n (.scope c) Q e w := fun a ha =>
  wp_scope_straight (wp_mono (h a ha) fun x a w hq => by
    obtain ⟨e1, ha1, hq⟩ := hq
    cases x <;> first | exact ⟨e1, ha1, hq⟩ | exact hq.elim)
section
variable {P : Program} {w w0 : World} {ρ : Operand → Value} {o : Oper} {S : Nat → Prop} {L : List Res}
theorem ext0_grown {w w' : World} (h : w.grownBy w' none) : Ext0 w w' := ⟨h.os, h.tape, h.output, h.size, fun k hk _ => h.block k hk (by simp)⟩
theorem n_make0 {t el : TypeId} {x y : Operand} {z : Value} {sz bytes c : Nat} {kl kc : IntKind} (h : o.op = .makeSlice t x y) (hu : P.underlying t = some (.slice el)) (hinfo : (P.info? el).map (fun i => (i.zero, i.size, i.bytes)) = some (some z, sz, bytes))
    (hx : ρ x = .int kl 0) (hy : ρ y = .int kc (c : Nat)) (hL : Has w L) (hE : Ext S w0 w) (hb : bytes * c ≤ 281474976710656) (h63 : c ≤ 9223372036854775807) :
    ∃ v w1, (execOp ρ o).run P w = .ok (.value v) w1 ∧ ∃ b, v = .slice (some ⟨b, 0, none⟩) 0 c ∧ w0.heap.size ≤ b ∧ Has w1 (.row w0.heap.size el sz v 0 [] :: L) ∧ Ext S w0 w1 ∧ Ext0 w w1 := by
  obtain ⟨i0, hinf, hzz⟩ := Option.map_eq_some_iff.1 hinfo
  simp only [Prod.mk.injEq] at hzz
  obtain ⟨hz0, hz1, hz2⟩ := hzz
  obtain ⟨w', hr, hown, hg⟩ := run_make_own (P := P) (w := w) w0.heap.size t el i0 z sz hu hinf hz0 hz1 kl kc c (by rw [hz2]; exact hb) (by unfold maxLen; omega) hE.size
  have h0 := ext0_grown hg
  refine ⟨_, w', by simp [execOp, h, hx, hy, hr], w.heap.size, rfl, hE.size, hL.cons h0 (r := .row w0.heap.size el sz _ 0 []) hown (fun b hb => ?_), hE.step0 h0, h0⟩
  simp [Res.foot, Value.ownBlock] at hb
  omega
theorem n_make {t el : TypeId} {x y : Operand} {z : Value} {sz bytes c : Nat} {kl kc : IntKind} (h : o.op = .makeSlice t x y) (hu : P.underlying t = some (.slice el)) (hinfo : (P.info? el).map (fun i => (i.zero, i.size, i.bytes)) = some (some z, sz, bytes))
    (hx : ρ x = .int kl (c : Nat)) (hy : ρ y = .int kc (c : Nat)) (hL : Has w L) (hE : Ext S w0 w) (hb : bytes * c ≤ 281474976710656) (h63 : c ≤ 9223372036854775807) :
    ∃ v w1, (execOp ρ o).run P w = .ok (.value v) w1 ∧ ∃ b, v = .slice (some ⟨b, 0, none⟩) c c ∧ w0.heap.size ≤ b ∧ Has w1 (.blk b (.cells (madeCells z.cells (c * sz)) el (0, 0)) :: L) ∧ Ext S w0 w1 ∧ Ext0 w w1 := by
  obtain ⟨i0, hinf, hzz⟩ := Option.map_eq_some_iff.1 hinfo
  simp only [Prod.mk.injEq] at hzz
  obtain ⟨hz0, hz1, hz2⟩ := hzz
  subst hz1
  have hb2 : (i0.bytes : Int) * (c : Int) ≤ 281474976710656 := by
    have h : ((bytes * c : Nat) : Int) ≤ 281474976710656 := by omega
    rw [hz2]
    rwa [Int.natCast_mul] at h
  have hr := run_make (P := P) w t el i0 z hu hinf hz0 kl kc (c : Nat) (c : Nat) (by omega) (by omega) hb2 (by omega)
  simp only [Int.toNat_natCast] at hr
  exact ⟨_, _, by simp [execOp, h, hx, hy, hr], w.heap.size, rfl, hE.size, hL.alloc _, hE.alloc _, (Ext.refl _ w).alloc _⟩
end
section
variable {κ ν : Type} [DecidableEq κ] {P : Program} {w w0 : World} {ρ : Operand → Value} {o : Oper} {kt et t : TypeId} {enc : κ → Value} {venc : ν → Value} {m : List (κ × ν)} {b : Nat} {S : Nat → Prop} {L : List Res}
theorem n_range {x : Operand} (h : o.op = .range t x) (hu : P.underlying t = some (.map kt et)) (hx : ρ x = .map (some b)) (hb : w.heap[b]? = some (mapObj enc venc m)) (hL : Has w L) (hE : Ext S w0 w) :
    ∃ v w1, (execOp ρ o).run P w = .ok (.value v) w1 ∧ ∃ it, v = .pointer (some ⟨it, 0, none⟩) ∧ w0.heap.size ≤ it ∧ Has w1 (.blk it (.mapIter (some b) m.length #[] m.length) :: L) ∧ Ext S w0 w1 ∧ Ext0 w w1 :=
  ⟨_, _, r_range h hu hx hb, _, rfl, hE.size, hL.alloc _, hE.alloc _, (Ext.refl _ w).alloc _⟩
theorem n_next {x : Operand} {it : Nat} {seen : Array Nat} (i : Nat) (h : o.op = .next x false) (hx : ρ x = .pointer (some ⟨it, 0, none⟩)) (hb : w.heap[b]? = some (mapObj enc venc m))
    (hL : Has w L) (hE : Ext S w0 w) (hi : L[i]? = some (.blk it (.mapIter (some b) m.length seen m.length))) (hS : it < w0.heap.size → S it) :
    ∃ v w1, (execOp ρ o).run P w = .ok (.value v) w1 ∧ ((v = .tuple #[.bool false] ∧ (∀ j, j < m.length → j ∈ seen) ∧ Has w1 L ∧ Ext S w0 w1) ∨
      (∃ (j : Nat) (q : κ × ν), v = .tuple #[.bool true, enc q.1, venc q.2] ∧ m[j]? = some q ∧ j ∉ seen ∧ Has w1 (L.set i (.blk it (.mapIter (some b) m.length (seen.push j) m.length))) ∧ Ext S w0 w1)) := by
  rcases r_next (P := P) i h hx hb hL hE hi hS with ⟨h1, w', h2, h3, h4, _⟩ | ⟨j, q, w', h1, h2, h3, h4, h5, _⟩
  · exact ⟨_, w', h2, .inl ⟨rfl, h1, h3, h4⟩⟩
  · exact ⟨_, w', h3, .inr ⟨j, q, rfl, h1, h2, h4, h5⟩⟩
end
/-! ### A loop, round by round -/
section
variable {P : Program} {n : Nat} {Q : Post} {e : Env} {w : World} {c : Code}
end
theorem ownsRow_base {w : World} {base base' e sz n : Nat} {v : Value} {xs : List Value} (h : w.ownsRow base e sz v n xs) (hb : base' ≤ base) : w.ownsRow base' e sz v n xs := by
  refine ⟨h.1, ?_⟩
  rcases h.2 with h2 | ⟨g, cap, cur, h1, h2, h3⟩
  · exact .inl h2
  · exact .inr ⟨g, cap, cur, h1, Nat.le_trans hb h2, h3⟩
/-! ### More than one operation may come up -/
section
variable {P : Program} {n : Nat} {ops : Array Oper} {Q : Post} {S : World → Prop} {fuel : Nat} {listed : Array Bool} {e : Env} {w : World} {o : Oper}
def hop (P : Program) (n : Nat) (ops : Array Oper) (Q : Post) (S : World → Prop) (fuel : Nat) (listed : Array Bool) (e : Env) (w : World) (i : Nat) : Prop :=
  ∀ a, Agrees n a e → wpOp P ops (lift n Q) i (fun a' w' => S w' ∧ wpAnyH P .any ops (lift n Q) S fuel (listed.setIfInBounds i true) a' w') a w
def allHop (P : Program) (n : Nat) (ops : Array Oper) (Q : Post) (S : World → Prop) (fuel : Nat) (listed : Array Bool) (e : Env) (w : World) : List Nat → Prop
  | [] => True
  | i :: r => hop P n ops Q S fuel listed e w i ∧ allHop P n ops Q S fuel listed e w r
theorem allHop_mem : ∀ {l : List Nat}, allHop P n ops Q S fuel listed e w l → ∀ i ∈ l, hop P n ops Q S fuel listed e w i
  | _ :: _, h, i, hi => by
    rcases List.mem_cons.1 hi with rfl | hi
    · exact h.1
    · exact allHop_mem h.2 i hi
theorem h_many (l : List Nat) (hr : ((Region.ready .any ops listed == l) && !l.isEmpty) = true) (h : allHop P n ops Q S fuel listed e w l) : hwp P n ops Q S (fuel + 1) listed e w := by
  rw [Bool.and_eq_true, beq_iff_eq] at hr
  intro a ha
  refine wpAnyH_all hr.1 (fun hl => ?_) fun j hj => allHop_mem h j hj a ha
  rw [hl] at hr
  exact absurd hr.2 (by decide)
theorem o_new (i : Nat) {R : Value → World → Prop} {t : Nat} (hi : ops[i]? = some o) (hd : o.dst = some t) (ht : Nat.blt t n = true) (hw : Region.wanted o (yieldedE ops e) = true) (h : ∃ v w1, (execOp (ev e) o).run P w = .ok (.value v) w1 ∧ R v w1)
    (k : ∀ v w1, R v w1 → S w1 ∧ hwp P n ops Q S fuel (listed.setIfInBounds i true) (e.put t v) w1) : hop P n ops Q S fuel listed e w i := by
  obtain ⟨v, w1, hr1, hR⟩ := h
  intro a ha
  unfold wpOp
  simp only [hi]
  rw [if_pos (by rw [wanted_eq ha]; exact hw)]
  refine .inl ?_
  simp only [Oper.wp, ha.eval, hr1, Oper.upon, hd]
  exact ⟨(k v w1 hR).1, (k v w1 hR).2 _ (ha.put t (Nat.le_of_ble_eq_true ht) v)⟩
theorem o_by (i : Nat) {f : FuncId} {args : List Value} {R : Ending → World → Prop} {t : Nat} (hi : ops[i]? = some o) (hd : o.dst = some t) (ht : Nat.blt t n = true) (hw : Region.wanted o (yieldedE ops e) = true) (h : (execOp (ev e) o).run P w = .ok (.enter f args.toArray) w) (hc : Calls P f args.toArray w R)
    (k : ∀ en w', R en w' → ∃ v, en = .returned v ∧ S w' ∧ hwp P n ops Q S fuel (listed.setIfInBounds i true) (e.put t v) w') : hop P n ops Q S fuel listed e w i := by
  intro a ha
  unfold wpOp
  simp only [hi]
  rw [if_pos (by rw [wanted_eq ha]; exact hw)]
  refine .inl ?_
  simp only [Oper.wp, ha.eval, h, Oper.upon, hd]
  refine Calls.mono hc fun en w' he => ?_
  obtain ⟨v, rfl, hs, hk⟩ := k en w' he
  exact ⟨hs, hk _ (ha.put t (Nat.le_of_ble_eq_true ht) v)⟩
theorem Has.front {w : World} : ∀ {L : List Res} (_ : Has w L) (i : Nat) {r : Res}, L[i]? = some r → Has w (r :: L.eraseIdx i)
  | p :: L, h, 0, r, hi => by
    have : p = r := by simpa using hi
    subst this
    exact h
  | p :: L, h, i + 1, r, hi => by
    have hi' : L[i]? = some r := by simpa using hi
    have ih := Has.front h.2.2 i hi'
    refine ⟨ih.1, fun q hq b hb hqb => ?_, h.1, fun q hq => h.2.1 q (List.mem_of_mem_eraseIdx hq), ih.2.2⟩
    rcases List.mem_cons.1 hq with rfl | hq
    · exact h.2.1 r (List.mem_of_getElem? hi') b hqb hb
    · exact ih.2.1 q hq b hb hqb
end
/-! ### A result that stands in memory -/
@[reducible] def BackC (t : Nat) (R : Addr → World → Prop) : Post
  | .normal, e, w | .ret, e, w => ∃ a, e t = .pointer (some a) ∧ R a w
  | _, _, _ => False
theorem calls_cell {P : Program} {w : World} {f : FuncId} {fn : Func} {c : Code} (t : Nat) (ty : TypeId) {n : Nat} {args : List Value} {R : Ending → World → Prop} (hf : P.funcs[f]? = some fn) (hb : fn.body = some c) (hn : Nat.ble args.length fn.ntmps = true)
    (hr : fn.results = #[.cell t ty]) (ha : Agg P ty true) (hs : Sized P ty n) (h : cwp P fn.ntmps c (BackC t fun a w' => ∃ vs : List Value, vs.length = n ∧ (∀ j v, vs[j]? = some v → w'.cell? (a.add j) = some v) ∧ R (.returned (.agg vs.toArray)) w') (Env.of args) w) : Calls P f args.toArray w R := by
  refine calls_of_wp hf hb ?_
  refine wp_mono (h _ (agrees_start args (Nat.le_of_ble_eq_true hn))) fun x a w' hq => ?_
  obtain ⟨e, hag, hq⟩ := hq
  have key : ∀ {w'}, (∃ a, e t = .pointer (some a) ∧ ∃ vs : List Value, vs.length = n ∧ (∀ j v, vs[j]? = some v → w'.cell? (a.add j) = some v) ∧ R (.returned (.agg vs.toArray)) w') → ∃ v, (results fn a.tmps).run P w' = .ok v w' ∧ R (.returned v) w' := by
    rintro w' ⟨ad, he, vs, hl, hc, hR⟩
    have h1 := hag.get t
    have hload : (loadVar ty ad).run P w' = .ok (.agg vs.toArray) w' := by
      subst hl
      simp [loadVar, ha w', hs w', run_loadCells_list (P := P) (w := w') ad vs hc]
    refine ⟨.agg vs.toArray, ?_, hR⟩
    rw [he, Array.getD_eq_getD_getElem?] at h1
    simp [results, hr, h1, asAddr, hload]
  cases x with
  | normal => exact ⟨hag.defers, key hq⟩
  | ret => exact ⟨hag.defers, key hq⟩
  | _ => exact hq.elim
theorem blk_raw {w : World} {b : Nat} {cs : Array Value} {t : TypeId} {fr : Nat × Nat} {ys : List Value} (hb : w.heap[b]? = some (.cells cs t fr)) (h : cs.toList = ys) (j : Nat) (u : Value) (hj : ys[j]? = some u) : w.cell? ((⟨b, 0, none⟩ : Addr).add j) = some u := by
  rw [blk_add, blk_cell hb, Nat.zero_add]
  rw [← h] at hj
  simpa using hj
def cells2 (p : Int × Int) : List Value := [.int .i64 p.1, .int .i64 p.2]
theorem Els.pairs (w : World) (l : List (Int × Int)) : Els w 2 RPair l (l.map cells2) := by
  refine ⟨by simp, fun i x cs h1 h2 => ?_⟩
  rw [List.getElem?_map, h1] at h2
  cases h2
  exact ⟨rfl, rfl⟩
theorem Sl.pairs_at {w : World} {base e n n' c : Nat} {A : Option Addr} {l : List (Int × Int)} (h : w.ownsRow base e 2 (.slice A n' c) n (l.map cells2).flatten) : Sl w 2 RPair A n' c l := by
  have hn : l.length = n := by
    have := h.1
    rw [List.length_flatten, List.map_map] at this
    have h2 : (List.map (List.length ∘ cells2) l).sum = l.length * 2 := by
      clear h this
      induction l with
      | nil => rfl
      | cons x r ih => simp only [List.map_cons, List.sum_cons, ih, List.length_cons, Function.comp_apply, cells2, List.length_nil]; omega
    omega
  obtain ⟨A', c', hv, hs, _⟩ := Sl.ofRow h (Els.pairs w l) hn
  injection hv with h1 h2 h3
  subst h1; subst h2; subst h3
  exact hs
theorem fill_pair (a b : Int) : Instr.fill (fun i => some (i * 2, 2)) ((List.range (1 * 2)).map ((Value.agg #[.int .i64 0, .int .i64 0]).cells[· % (Value.agg #[.int .i64 0, .int .i64 0]).cells.size]!)).toArray [(0, .agg #[.int .i64 a, .int .i64 b])] = some #[.int .i64 a, .int .i64 b] := by rfl
theorem pairs_snoc (l : List (Int × Int)) (q : Int × Int) : (l.map cells2).flatten ++ cells2 q = ((l ++ [q]).map cells2).flatten := by simp
end Go.Proofs.YtndophlnapjkhaaGreatDoor.Vc
namespace Go.Proofs.YtndophlnapjkhaaGreatDoor.Vc
open Go Go.RowKit
set_option linter.unusedVariables false
set_option linter.unusedSimpArgs false
/-! ### Maps -/
section
variable {κ ν : Type} [DecidableEq κ]
theorem getM_setM (m : List (κ × ν)) (k : κ) (v : ν) (q : κ) : getM (setM m k v) q = if k = q then some v else getM m q := by
  induction m with
  | nil =>
    by_cases h : k = q <;> simp [setM, getM, h]
  | cons p r ih =>
    by_cases hp : p.1 = k
    · subst hp
      by_cases h : p.1 = q <;> simp [setM, getM, h]
    · simp only [setM, hp, if_false, getM, ih]
      by_cases h : k = q
      · subst h
        simp [hp]
      · simp [h]
theorem getM_mem {m : List (κ × ν)} {q : κ} {v : ν} (h : getM m q = some v) : q ∈ m.map (·.1) := by
  induction m with
  | nil => simp [getM] at h
  | cons p r ih =>
    by_cases hp : p.1 = q
    · simp [hp]
    · simp only [getM, hp, if_false] at h
      simp only [List.map_cons, List.mem_cons]
      exact .inr (ih h)
theorem getM_of_mem {m : List (κ × ν)} {q : κ} (h : q ∈ m.map (·.1)) : ∃ v, getM m q = some v := by
  induction m with
  | nil => simp at h
  | cons p r ih =>
    by_cases hp : p.1 = q
    · exact ⟨p.2, by simp [getM, hp]⟩
    · simp only [List.map_cons, List.mem_cons] at h
      rcases h with h | h
      · exact absurd h.symm hp
      · obtain ⟨v, hv⟩ := ih h
        exact ⟨v, by simp [getM, hp, hv]⟩
theorem setM_keys' (m : List (κ × ν)) (k : κ) (v : ν) : (setM m k v).map (·.1) = if k ∈ m.map (·.1) then m.map (·.1) else m.map (·.1) ++ [k] := by
  induction m with
  | nil => rfl
  | cons p r ih =>
    by_cases hp : p.1 = k
    · simp [setM, hp]
    · simp only [setM, hp, if_false, List.map_cons, ih, List.mem_cons]
      have : ¬ k = p.1 := fun e => hp e.symm
      simp only [this, false_or]
      split <;> simp
theorem setM_nodup {m : List (κ × ν)} (h : (m.map (·.1)).Nodup) (k : κ) (v : ν) : ((setM m k v).map (·.1)).Nodup := by
  rw [setM_keys']
  split
  · exact h
  · rename_i hk
    rw [List.nodup_append]
    refine ⟨h, by simp, ?_⟩
    rintro a ha b hb rfl
    rw [List.mem_singleton] at hb
    subst hb
    exact hk ha
end
theorem nodup_sub {α : Type} [DecidableEq α] : ∀ (U l : List α), l.Nodup → (∀ x ∈ l, x ∈ U) → l.length ≤ U.length
  | [], l, _, h => by
    cases l with
    | nil => simp
    | cons x r => exact absurd (h x List.mem_cons_self) (by simp)
  | u :: U, l, hn, h => by
    have h1 := nodup_sub U (l.erase u) (hn.erase u) (fun x hx => by
      have hx2 := (hn.mem_erase_iff).1 hx
      rcases List.mem_cons.1 (h x hx2.2) with rfl | h3
      · exact absurd rfl hx2.1
      · exact h3)
    have h2 : l.length ≤ (l.erase u).length + 1 := by
      rw [List.length_erase]
      split <;> omega
    simp only [List.length_cons]
    omega
theorem sum_le {α : Type} (f g : α → Nat) : ∀ (U : List α), (∀ x ∈ U, f x ≤ g x) → (U.map f).sum ≤ (U.map g).sum
  | [], _ => by simp
  | u :: U, h => by
    have h1 := sum_le f g U (fun x hx => h x (List.mem_cons_of_mem _ hx))
    have h2 := h u List.mem_cons_self
    simp only [List.map_cons, List.sum_cons]
    omega
theorem sum_lt {α : Type} (f g : α → Nat) : ∀ (U : List α), (∀ x ∈ U, f x ≤ g x) → (∃ x ∈ U, f x < g x) → (U.map f).sum < (U.map g).sum
  | [], _, h => by simp at h
  | u :: U, h, hx => by
    have h1 := sum_le f g U (fun x hx => h x (List.mem_cons_of_mem _ hx))
    have h2 := h u List.mem_cons_self
    simp only [List.map_cons, List.sum_cons]
    obtain ⟨x, hm, hlt⟩ := hx
    rcases List.mem_cons.1 hm with rfl | hm
    · omega
    · have := sum_lt f g U (fun x hx => h x (List.mem_cons_of_mem _ hx)) ⟨x, hm, hlt⟩
      omega
/-! ### The pairs of a graph -/
def InG (n : Nat) (p : Int × Int) : Prop := 0 ≤ p.1 ∧ p.1 < n ∧ 0 ≤ p.2 ∧ p.2 < n
def allP (n : Nat) : List (Int × Int) := (List.range n).flatMap fun (a : Nat) => (List.range n).map fun (b : Nat) => ((a : Int), (b : Int))
theorem mem_allP {n : Nat} {p : Int × Int} (h : InG n p) : p ∈ allP n := by
  obtain ⟨a, b⟩ := p
  obtain ⟨h1, h2, h3, h4⟩ := h
  simp only at h1 h2 h3 h4
  unfold allP
  rw [List.mem_flatMap]
  refine ⟨a.toNat, List.mem_range.2 (by omega), ?_⟩
  rw [List.mem_map]
  exact ⟨b.toNat, List.mem_range.2 (by omega), by ext <;> simp <;> omega⟩
theorem length_allP (n : Nat) : (allP n).length = n * n := by
  unfold allP
  rw [List.length_flatMap]
  have : ∀ (l : List Nat), (l.map fun (_ : Nat) => n).sum = l.length * n := fun l => by
    induction l with
    | nil => simp
    | cons x r ih => simp [ih, Nat.add_mul]; omega
  simpa using this (List.range n)
/-! ### The rules, asked of a relation -/
section
variable (g : List GNode) (st : Bool) (X : Int × Int → Bool)
def recX (s : GNode) : List (ByteArray × Int) → Bool
  | [] => true
  | (key, tl) :: r => if idxV (idxS s.keys key) < 0 then false else X (iat s.l (idxV (idxS s.keys key)), tl) && recX s r
def ruleX (s t : GNode) : Bool :=
  if s.kind = 5 then decide (s.name = t.name) else if s.kind = 7 then recX X s (t.keys.zip t.l) else if s.kind = 9 then (if s.num = t.num then X (iat s.l 0, iat t.l 0) else false) else true
def doesX (s t : GNode) : Bool := if s.kind = 1 ∨ t.kind = 1 then !st || decide (s.kind = t.kind) else if s.kind = t.kind then ruleX X s t else false
def findX {α : Type} (p : α → Bool) : Nat → List α → Option Nat
  | _, [] => none
  | k, x :: r => if p x then some k else findX p (k + 1) r
def pickX (a b : Int) : Int :=
  match findX (fun k => doesX st X (gat g a) (gat g k)) 0 (membersG g b) with
  | some i => i
  | none => if (gat g a).kind = 9 then (if X (iat (gat g a).l 0, b) then -1 else -2) else -2
def holdsX (p : Int × Int) : Bool := !(findX (fun s => decide (pickX g st X s p.2 = -2)) 0 (membersG g p.1)).isSome
end
def FitsM (X : Int × Int → Bool) (m : PM) : Prop := ∀ q v, getM m q = some v → X q = decide (0 < v)
inductive Grows (n : Nat) : PM → PM → Prop
  | refl (m : PM) : Grows n m m
  | step {m m' : PM} {q : Int × Int} (h : Grows n m m') (hq : getM m' q = none) (hn : InG n q) : Grows n m (setM m' q 1)
section
variable {n : Nat} {m m' m'' : PM}
theorem Grows.trans (h : Grows n m m') (k : Grows n m' m'') : Grows n m m'' := by
  induction k with
  | refl => exact h
  | step _ hq hn ih => exact .step ih hq hn
theorem Grows.keeps (h : Grows n m m') {q : Int × Int} {v : Int} (hq : getM m q = some v) : getM m' q = some v := by
  induction h with
  | refl => exact hq
  | step _ hn _ ih =>
    rw [getM_setM]
    split
    · rename_i e
      subst e
      rw [ih] at hn
      cases hn
    · exact ih
theorem Grows.new (h : Grows n m m') {q : Int × Int} (hq : getM m q = none) : getM m' q = none ∨ getM m' q = some 1 := by
  induction h with
  | refl => exact .inl hq
  | step _ hn _ ih =>
    rw [getM_setM]
    split
    · exact .inr rfl
    · exact ih
theorem Grows.fits (h : Grows n m m') {X : Int × Int → Bool} (hX : FitsM X m') : FitsM X m := fun q v hq => hX q v (h.keeps hq)
theorem length_setM_none {m : PM} {q : Int × Int} {v : Int} (h : getM m q = none) : (setM m q v).length = m.length + 1 := by
  rw [length_setM, idxM_none.2 h]
  rfl
theorem Grows.le (h : Grows n m m') : m.length ≤ m'.length := by
  induction h with
  | refl => exact Nat.le_refl _
  | step _ hn _ ih => rw [length_setM_none hn]; omega
theorem Grows.eq (h : Grows n m m') (hl : m.length = m'.length) : m' = m := by
  cases h with
  | refl => rfl
  | step h hn _ =>
    rw [length_setM_none hn] at hl
    have := h.le
    omega
def statM (m : PM) (q : Int × Int) : Nat := match getM m q with | none => 2 | some v => if 0 < v then 1 else 0
def leftM (n : Nat) (m : PM) : Nat := ((allP n).map (statM m)).sum
theorem statM_set (m : PM) (q p : Int × Int) (v : Int) : statM (setM m q v) p = if q = p then (if 0 < v then 1 else 0) else statM m p := by
  unfold statM
  rw [getM_setM]
  by_cases e : q = p
  · rw [if_pos e, if_pos e]
  · rw [if_neg e, if_neg e]
theorem Grows.left (h : Grows n m m') : leftM n m' ≤ leftM n m := by
  refine sum_le _ _ _ fun q _ => ?_
  unfold statM
  cases hq : getM m q with
  | none =>
    rcases h.new hq with h1 | h1 <;> rw [h1] <;> decide
  | some v => rw [h.keeps hq]; exact Nat.le_refl _
theorem Grows.left_lt (h : Grows n m m') (hl : m.length ≠ m'.length) : leftM n m' < leftM n m := by
  cases h with
  | refl => exact absurd rfl hl
  | @step m1 q h hq hn =>
    refine Nat.lt_of_lt_of_le (sum_lt _ _ _ (fun p _ => ?_) ⟨q, mem_allP hn, ?_⟩) h.left
    · rw [statM_set]
      split
      · rename_i e
        subst e
        simp [statM, hq]
      · exact Nat.le_refl _
    · rw [statM_set, if_pos rfl]
      simp [statM, hq]
end
/-! ### What the functions give is what the rules say of any relation that fits -/
section
variable {g : List GNode} {st : Bool}
theorem grant_is {n : Nat} (m : PM) (p : Int × Int) (hp : InG n p) : Grows n m (grant m p).2 ∧ ∀ X, FitsM X (grant m p).2 → X p = (grant m p).1 := by
  unfold grant
  cases h : getM m p with
  | none =>
    refine ⟨.step (.refl m) h hp, fun X hX => ?_⟩
    have := hX p 1 (by rw [getM_setM, if_pos rfl])
    rw [this]
    rfl
  | some v => exact ⟨.refl m, fun X hX => hX p v h⟩
theorem recM_is (s : GNode) (hs : ∀ k ∈ s.l, 0 ≤ k ∧ k < (g.length : Int)) (hsl : s.l.length = s.keys.length) : ∀ (items : List (ByteArray × Int)) (m : PM), (∀ x ∈ items, 0 ≤ x.2 ∧ x.2 < (g.length : Int)) → Grows g.length m (recM s m items).2 ∧ ∀ X, FitsM X (recM s m items).2 → recX X s items = (recM s m items).1
  | [], m, _ => ⟨.refl m, fun X _ => rfl⟩
  | (key, tl) :: r, m, h => by
    have h0 := h (key, tl) List.mem_cons_self
    unfold recM
    by_cases hi : idxV (idxS s.keys key) < 0
    · rw [if_pos hi]
      exact ⟨.refl m, fun X _ => by rw [recX, if_pos hi]⟩
    · rw [if_neg hi]
      have hlt := idxS_lt s.keys key
      have hin := hs (iat s.l (idxV (idxS s.keys key))) (by
        have := iat_nat (l := s.l) (k := (idxV (idxS s.keys key)).toNat) (by omega)
        rw [Int.toNat_of_nonneg (by omega)] at this
        exact List.mem_of_getElem? this)
      have hg := grant_is m (iat s.l (idxV (idxS s.keys key)), tl) (n := g.length) ⟨hin.1, hin.2, h0.1, h0.2⟩
      cases hb : (grant m (iat s.l (idxV (idxS s.keys key)), tl)).1 with
      | false =>
        rw [if_neg (by simp)]
        refine ⟨hg.1, fun X hX => ?_⟩
        have := hg.2 X hX
        rw [hb] at this
        rw [recX, if_neg hi, this]
        rfl
      | true =>
        rw [if_pos rfl]
        have ih := recM_is s hs hsl r (grant m (iat s.l (idxV (idxS s.keys key)), tl)).2 (fun x hx => h x (List.mem_cons_of_mem _ hx))
        refine ⟨hg.1.trans ih.1, fun X hX => ?_⟩
        have := hg.2 X (ih.1.fits hX)
        rw [hb] at this
        rw [recX, if_neg hi, this, ih.2 X hX]
        rfl
structure SideOk (g : List GNode) (s : GNode) : Prop where
  inn : ∀ k ∈ s.l, 0 ≤ k ∧ k < (g.length : Int)
  plain : PlainN s
theorem SideOk.of (h : GraphOk g) {s : GNode} (hs : s ∈ g) (h8 : s.kind ≠ 8) : SideOk g s := ⟨fun k hk => h.inn hs hk, (h.is hs).plain h8⟩
theorem SideOk.rcd {s : GNode} (h : SideOk g s) (h7 : s.kind = 7) : s.l.length = s.keys.length := by
  rcases h.plain with k | k | k | k | k | ⟨k, hk⟩ | ⟨k, hk⟩ <;> first | exact hk | omega
theorem SideOk.var {s : GNode} (h : SideOk g s) (h9 : s.kind = 9) : s.l.length = 1 := by
  rcases h.plain with k | k | k | k | k | ⟨k, hk⟩ | ⟨k, hk⟩ <;> first | exact hk | omega
theorem SideOk.first {s : GNode} (h : SideOk g s) (h9 : s.kind = 9) : 0 ≤ iat s.l 0 ∧ iat s.l 0 < (g.length : Int) :=
  h.inn _ (List.mem_of_getElem? (iat_nat (l := s.l) (k := 0) (by rw [h.var h9]; decide)))
theorem doesM_is (m : PM) {s t : GNode} (hs : SideOk g s) (ht : SideOk g t) : Grows g.length m (doesM st m s t).2 ∧ ∀ X, FitsM X (doesM st m s t).2 → doesX st X s t = (doesM st m s t).1 := by
  unfold doesM
  by_cases h1 : s.kind = 1 ∨ t.kind = 1
  · rw [if_pos h1]
    exact ⟨.refl m, fun X _ => by unfold doesX; rw [if_pos h1]⟩
  · rw [if_neg h1]
    by_cases h2 : s.kind = t.kind
    · rw [if_pos h2]
      have key : Grows g.length m (ruleM m s t).2 ∧ ∀ X, FitsM X (ruleM m s t).2 → ruleX X s t = (ruleM m s t).1 := by
        unfold ruleM
        by_cases h5 : s.kind = 5
        · rw [if_pos h5]
          exact ⟨.refl m, fun X _ => by unfold ruleX; rw [if_pos h5]⟩
        · rw [if_neg h5]
          by_cases h7 : s.kind = 7
          · rw [if_pos h7]
            have := recM_is s hs.inn (hs.rcd h7) (t.keys.zip t.l) m (fun x hx => ht.inn x.2 (List.of_mem_zip (show (x.1, x.2) ∈ t.keys.zip t.l from hx)).2)
            exact ⟨this.1, fun X hX => by unfold ruleX; rw [if_neg h5, if_pos h7]; exact this.2 X hX⟩
          · rw [if_neg h7]
            by_cases h9 : s.kind = 9
            · rw [if_pos h9]
              by_cases hn : s.num = t.num
              · rw [if_pos hn]
                have := grant_is m (iat s.l 0, iat t.l 0) (n := g.length) ⟨(hs.first h9).1, (hs.first h9).2, (ht.first (h2 ▸ h9)).1, (ht.first (h2 ▸ h9)).2⟩
                exact ⟨this.1, fun X hX => by unfold ruleX; rw [if_neg h5, if_neg h7, if_pos h9, if_pos hn]; exact this.2 X hX⟩
              · rw [if_neg hn]
                exact ⟨.refl m, fun X _ => by unfold ruleX; rw [if_neg h5, if_neg h7, if_pos h9, if_neg hn]⟩
            · rw [if_neg h9]
              exact ⟨.refl m, fun X _ => by unfold ruleX; rw [if_neg h5, if_neg h7, if_neg h9]⟩
      exact ⟨key.1, fun X hX => by unfold doesX; rw [if_neg h1, if_pos h2]; exact key.2 X hX⟩
    · rw [if_neg h2]
      exact ⟨.refl m, fun X _ => by unfold doesX; rw [if_neg h1, if_neg h2]⟩
theorem findS_is {α : Type} (p : PM → α → Bool × PM) (q : (Int × Int → Bool) → α → Bool) : ∀ (l : List α) (k : Nat) (m : PM), (∀ x ∈ l, ∀ m, Grows g.length m (p m x).2 ∧ ∀ X, FitsM X (p m x).2 → q X x = (p m x).1) →
    Grows g.length m (findS p k m l).2 ∧ ∀ X, FitsM X (findS p k m l).2 → findX (q X) k l = (findS p k m l).1
  | [], k, m, _ => ⟨.refl m, fun X _ => rfl⟩
  | x :: r, k, m, h => by
    have h1 := h x List.mem_cons_self m
    unfold findS
    cases hb : (p m x).1 with
    | true =>
      rw [if_pos rfl]
      refine ⟨h1.1, fun X hX => ?_⟩
      rw [findX, h1.2 X hX, hb]
      rfl
    | false =>
      rw [if_neg (by simp)]
      have ih := findS_is p q r (k + 1) (p m x).2 (fun x hx => h x (List.mem_cons_of_mem _ hx))
      refine ⟨h1.1.trans ih.1, fun X hX => ?_⟩
      rw [findX, h1.2 X (ih.1.fits hX), hb]
      exact ih.2 X hX
theorem pickM_is (hok : GraphOk g) (m : PM) {a b : Int} (ha : 0 ≤ a) (han : a < g.length) (ha8 : (gat g a).kind ≠ 8) (hb : 0 ≤ b ∧ b < g.length) : Grows g.length m (pickM g st m a b).2 ∧ ∀ X, FitsM X (pickM g st m a b).2 → pickX g st X a b = (pickM g st m a b).1 := by
  have hs := SideOk.of hok (gat_mem' ha han) ha8
  have key := findS_is (fun m k => doesM st m (gat g a) (gat g k)) (fun X k => doesX st X (gat g a) (gat g k)) (membersG g b) 0 m (fun k hk m => by
    obtain ⟨h1, h2, h3⟩ := hok.members hk
    exact doesM_is m hs (SideOk.of hok (gat_mem' h1 h2) h3))
  unfold pickM
  cases hf : findS (fun m k => doesM st m (gat g a) (gat g k)) 0 m (membersG g b) with
  | mk o m1 =>
    rw [hf] at key
    cases o with
    | some i => exact ⟨key.1, fun X hX => by unfold pickX; rw [key.2 X hX]⟩
    | none =>
      simp only
      by_cases h9 : (gat g a).kind = 9
      · rw [if_pos h9]
        have hgr := grant_is m1 (iat (gat g a).l 0, b) (n := g.length) ⟨(hs.first h9).1, (hs.first h9).2, hb.1, hb.2⟩
        cases hgb : (grant m1 (iat (gat g a).l 0, b)).1 with
        | true =>
          rw [if_pos rfl]
          refine ⟨key.1.trans hgr.1, fun X hX => ?_⟩
          unfold pickX
          rw [key.2 X (hgr.1.fits hX)]
          simp only
          rw [if_pos h9, hgr.2 X hX, hgb]
          rfl
        | false =>
          rw [if_neg (by simp)]
          refine ⟨key.1.trans hgr.1, fun X hX => ?_⟩
          unfold pickX
          rw [key.2 X (hgr.1.fits hX)]
          simp only
          rw [if_pos h9, hgr.2 X hX, hgb]
          rfl
      · rw [if_neg h9]
        refine ⟨key.1, fun X hX => ?_⟩
        unfold pickX
        rw [key.2 X hX]
        simp only
        rw [if_neg h9]
theorem holdsM_is (hok : GraphOk g) (m : PM) {p : Int × Int} (hp : InG g.length p) : Grows g.length m (holdsM g st m p).2 ∧ ∀ X, FitsM X (holdsM g st m p).2 → holdsX g st X p = (holdsM g st m p).1 := by
  have key := findS_is (fun m s => (decide ((pickM g st m s p.2).1 = -2), (pickM g st m s p.2).2)) (fun X s => decide (pickX g st X s p.2 = -2)) (membersG g p.1) 0 m (fun s hs m => by
    obtain ⟨h1, h2, h3⟩ := hok.members hs
    have := pickM_is (st := st) hok m h1 h2 h3 ⟨hp.2.2.1, hp.2.2.2⟩
    exact ⟨this.1, fun X hX => by rw [this.2 X hX]⟩)
  refine ⟨key.1, fun X hX => ?_⟩
  unfold holdsX
  rw [key.2 X hX]
  rfl
end
end Go.Proofs.YtndophlnapjkhaaGreatDoor.Vc
namespace Go.Proofs.YtndophlnapjkhaaGreatDoor.Vc
open Go Go.RowKit
set_option linter.unusedVariables false
set_option linter.unusedSimpArgs false
section
variable {g : List GNode} {st : Bool} {X Y : Int × Int → Bool}
/-! ### More granted, more held -/
theorem recX_mono (h : ∀ q, X q = true → Y q = true) (s : GNode) : ∀ (items : List (ByteArray × Int)), recX X s items = true → recX Y s items = true
  | [], _ => rfl
  | (key, tl) :: r, hr => by
    unfold recX at hr ⊢
    split at hr
    · cases hr
    · rename_i hi
      rw [if_neg hi]
      rw [Bool.and_eq_true] at hr ⊢
      exact ⟨h _ hr.1, recX_mono h s r hr.2⟩
theorem doesX_mono (h : ∀ q, X q = true → Y q = true) (s t : GNode) (hd : doesX st X s t = true) : doesX st Y s t = true := by
  unfold doesX at hd ⊢
  split at hd
  · rename_i h1
    rw [if_pos h1]; exact hd
  · rename_i h1
    rw [if_neg h1]
    split at hd
    · rename_i h2
      rw [if_pos h2]
      unfold ruleX at hd ⊢
      split at hd
      · rename_i h5; rw [if_pos h5]; exact hd
      · rename_i h5
        rw [if_neg h5]
        split at hd
        · rename_i h7; rw [if_pos h7]; exact recX_mono h s _ hd
        · rename_i h7
          rw [if_neg h7]
          split at hd
          · rename_i h9
            rw [if_pos h9]
            split at hd
            · rename_i hn; rw [if_pos hn]; exact h _ hd
            · cases hd
          · rename_i h9; rw [if_neg h9]
    · cases hd
theorem findX_some {α : Type} {p : α → Bool} : ∀ (k : Nat) (l : List α), (findX p k l).isSome = l.any p
  | _, [] => rfl
  | k, x :: r => by
    unfold findX
    rw [List.any_cons]
    cases h : p x with
    | true => simp
    | false => simp [findX_some (k + 1) r]
theorem pickX_some (a b : Int) : (pickX g st X a b ≠ -2) ↔ ((membersG g b).any (fun k => doesX st X (gat g a) (gat g k)) = true ∨ ((gat g a).kind = 9 ∧ X (iat (gat g a).l 0, b) = true)) := by
  rw [← findX_some 0]
  unfold pickX
  cases hf : findX (fun k => doesX st X (gat g a) (gat g k)) 0 (membersG g b) with
  | some i => simp
  | none =>
    by_cases h9 : (gat g a).kind = 9
    · by_cases hx : X (iat (gat g a).l 0, b) = true
      · simp [h9, hx]
      · simp [h9, hx]
    · simp [h9]
theorem pickX_mono (h : ∀ q, X q = true → Y q = true) (a b : Int) (hp : pickX g st X a b ≠ -2) : pickX g st Y a b ≠ -2 := by
  rw [pickX_some] at hp ⊢
  rcases hp with hp | ⟨h9, hp⟩
  · refine .inl ?_
    rw [List.any_eq_true] at hp ⊢
    obtain ⟨x, hx, hd⟩ := hp
    exact ⟨x, hx, doesX_mono h _ _ hd⟩
  · exact .inr ⟨h9, h _ hp⟩
theorem holdsX_iff (p : Int × Int) : holdsX g st X p = true ↔ ∀ s ∈ membersG g p.1, pickX g st X s p.2 ≠ -2 := by
  unfold holdsX
  rw [findX_some, Bool.not_eq_true', List.any_eq_false]
  simp
theorem holdsX_mono (h : ∀ q, X q = true → Y q = true) (p : Int × Int) (hp : holdsX g st X p = true) : holdsX g st Y p = true := by
  rw [holdsX_iff] at hp ⊢
  exact fun s hs => pickX_mono h s p.2 (hp s hs)
/-! ### What is asked lies in the graph -/
def tableM (X : Int × Int → Bool) (U : List (Int × Int)) : PM := U.map fun q => (q, if X q then 1 else 0)
theorem getM_table (X : Int × Int → Bool) : ∀ (U : List (Int × Int)) (q : Int × Int), getM (tableM X U) q = if q ∈ U then some (if X q then 1 else 0) else none
  | [], q => by simp [tableM, getM]
  | u :: U, q => by
    have ih := getM_table X U q
    unfold tableM at ih ⊢
    simp only [List.map_cons, getM]
    by_cases h : u = q
    · subst h
      simp
    · rw [if_neg h, ih]
      have : ¬ q = u := fun e => h e.symm
      simp [this]
theorem grows_full {n : Nat} {m m' : PM} (h : Grows n m m') (hf : ∀ q, InG n q → ∃ v, getM m q = some v) : m' = m := by
  cases h with
  | refl => rfl
  | step h hq hn =>
    obtain ⟨v, hv⟩ := hf _ hn
    rw [h.keeps hv] at hq
    cases hq
theorem holdsX_congr (hok : GraphOk g) (h : ∀ q, InG g.length q → X q = Y q) {p : Int × Int} (hp : InG g.length p) : holdsX g st X p = holdsX g st Y p := by
  have key := holdsM_is (st := st) hok (tableM X (allP g.length)) hp
  have he := grows_full key.1 (fun q hq => ⟨_, by rw [getM_table, if_pos (mem_allP hq)]⟩)
  rw [he] at key
  have hX : FitsM X (tableM X (allP g.length)) := fun q v hq => by
    rw [getM_table] at hq
    split at hq
    · cases hq
      cases X q <;> rfl
    · cases hq
  have hY : FitsM Y (tableM X (allP g.length)) := fun q v hq => by
    rw [getM_table] at hq
    split at hq
    · rename_i hm
      have hin : InG g.length q := by
        unfold allP at hm
        rw [List.mem_flatMap] at hm
        obtain ⟨a, ha, hm⟩ := hm
        rw [List.mem_map] at hm
        obtain ⟨b, hb, rfl⟩ := hm
        rw [List.mem_range] at ha hb
        exact ⟨by simp, by simp; omega, by simp, by simp; omega⟩
      cases hq
      rw [← h q hin]
      cases X q <;> rfl
    · cases hq
  rw [key.2 X hX, key.2 Y hY]
/-! ### The greatest -/
def iterX (g : List GNode) (st : Bool) : Nat → Int × Int → Bool
  | 0 => fun _ => true
  | k + 1 => fun p => holdsX g st (iterX g st k) p
def mayX (g : List GNode) (st : Bool) : Int × Int → Bool := iterX g st (g.length * g.length + 1)
theorem iterX_down : ∀ (k : Nat) (q : Int × Int), iterX g st (k + 1) q = true → iterX g st k q = true
  | 0, _, _ => rfl
  | k + 1, q, h => holdsX_mono (fun p hp => iterX_down k p hp) q h
theorem iterX_great {R : Int × Int → Bool} (h : ∀ q, R q = true → holdsX g st R q = true) : ∀ (k : Nat) (q : Int × Int), R q = true → iterX g st k q = true
  | 0, _, _ => rfl
  | k + 1, q, hq => holdsX_mono (fun p hp => iterX_great h k p hp) q (h q hq)
theorem may_great {R : Int × Int → Bool} (h : ∀ q, R q = true → holdsX g st R q = true) {q : Int × Int} (hq : R q = true) : mayX g st q = true := iterX_great h _ q hq
def manyX (n : Nat) (X : Int × Int → Bool) : Nat := ((allP n).map fun q => if X q then 1 else 0).sum
theorem iterX_stands (hok : GraphOk g) {k : Nat} (h : ∀ q, InG g.length q → iterX g st (k + 1) q = iterX g st k q) : ∀ (j : Nat) (q : Int × Int), InG g.length q → iterX g st (k + j) q = iterX g st k q
  | 0, _, _ => rfl
  | j + 1, q, hq => by
    rw [← h q hq]
    show holdsX g st (iterX g st (k + j)) q = holdsX g st (iterX g st k) q
    exact holdsX_congr hok (fun p hp => iterX_stands hok h j p hp) hq
theorem iterX_many (hok : GraphOk g) : ∀ (k : Nat), (∃ j, j < k ∧ ∀ q, InG g.length q → iterX g st (j + 1) q = iterX g st j q) ∨ manyX g.length (iterX g st k) + k ≤ g.length * g.length
  | 0 => by
    refine .inr ?_
    have := sum_le (fun q => if iterX g st 0 q then 1 else 0) (fun _ => 1) (allP g.length) (fun q _ => by split <;> omega)
    have h2 : ((allP g.length).map fun _ => 1).sum = (allP g.length).length := by
      induction allP g.length with
      | nil => rfl
      | cons x r ih => simp [ih]; omega
    rw [h2, length_allP] at this
    exact this
  | k + 1 => by
    rcases iterX_many hok k with ⟨j, hj, h⟩ | h
    · exact .inl ⟨j, by omega, h⟩
    · by_cases he : ∀ q, InG g.length q → iterX g st (k + 1) q = iterX g st k q
      · exact .inl ⟨k, by omega, he⟩
      · refine .inr ?_
        have hex : ∃ q, InG g.length q ∧ iterX g st (k + 1) q ≠ iterX g st k q := by
          apply Classical.byContradiction
          intro hn
          exact he fun q hq => Classical.byContradiction fun h2 => hn ⟨q, hq, h2⟩
        obtain ⟨q, hq, hne⟩ := hex
        have := sum_lt (fun q => if iterX g st (k + 1) q then 1 else 0) (fun q => if iterX g st k q then 1 else 0) (allP g.length) (fun p _ => by
          have := iterX_down (g := g) (st := st) k p
          cases h1 : iterX g st (k + 1) p with
          | false => simp
          | true => rw [this h1]; simp) ⟨q, mem_allP hq, by
          have := iterX_down (g := g) (st := st) k q
          cases h1 : iterX g st (k + 1) q with
          | true => rw [this h1] at hne; exact absurd h1 hne
          | false =>
            cases h2 : iterX g st k q with
            | false => rw [h1, h2] at hne; exact absurd rfl hne
            | true => simp⟩
        unfold manyX at h ⊢
        omega
theorem may_fix (hok : GraphOk g) {p : Int × Int} (hp : InG g.length p) : mayX g st p = holdsX g st (mayX g st) p := by
  obtain ⟨j, hj, h⟩ : ∃ j, j < g.length * g.length + 1 ∧ ∀ q, InG g.length q → iterX g st (j + 1) q = iterX g st j q := by
    rcases iterX_many (st := st) hok (g.length * g.length + 1) with h | h
    · exact h
    · omega
  have hs := iterX_stands hok h
  have e1 : ∀ q, InG g.length q → mayX g st q = iterX g st j q := fun q hq => by
    have := hs (g.length * g.length + 1 - j) q hq
    rw [show j + (g.length * g.length + 1 - j) = g.length * g.length + 1 by omega] at this
    exact this
  rw [e1 p hp, holdsX_congr hok e1 hp]
  exact (h p hp).symm
/-! ### The solver's map -/
structure Inv (g : List GNode) (st : Bool) (m : PM) : Prop where
  inn : ∀ q v, getM m q = some v → InG g.length q ∧ (v = 0 ∨ v = 1)
  no : ∀ q, getM m q = some 0 → mayX g st q = false
  nodup : (m.map (·.1)).Nodup
theorem Inv.nil : Inv g st [] := ⟨fun q v h => by simp [getM] at h, fun q h => by simp [getM] at h, by simp⟩
variable {m m' : PM}
theorem Inv.grows (h : Inv g st m) (hg : Grows g.length m m') : Inv g st m' := by
  induction hg with
  | refl => exact h
  | @step m1 q hg hq hn ih =>
    refine ⟨fun p v hp => ?_, fun p hp => ?_, setM_nodup ih.nodup _ _⟩
    · rw [getM_setM] at hp
      split at hp
      · rename_i e
        subst e
        cases hp
        exact ⟨hn, .inr rfl⟩
      · exact ih.inn p v hp
    · rw [getM_setM] at hp
      split at hp
      · cases hp
      · exact ih.no p hp
theorem Inv.ok_fits (h : Inv g st m) : FitsM (fun q => decide (getM m q ≠ some 0)) m := fun q v hq => by
  rcases (h.inn q v hq).2 with rfl | rfl <;> simp [hq]
theorem Inv.take (h : Inv g st m) (hok : GraphOk g) {p : Int × Int} (hp : InG g.length p) (hX : ∀ X, FitsM X m → holdsX g st X p = false) : Inv g st (setM m p 0) := by
  have hno : mayX g st p = false := by
    rw [may_fix hok hp]
    cases hh : holdsX g st (mayX g st) p with
    | false => rfl
    | true =>
      have := holdsX_mono (Y := fun q => decide (getM m q ≠ some 0)) (fun q hq => by
        simp only [decide_eq_true_eq]
        intro e
        rw [h.no q e] at hq
        cases hq) p hh
      rw [hX _ h.ok_fits] at this
      cases this
  refine ⟨fun q v hq => ?_, fun q hq => ?_, setM_nodup h.nodup _ _⟩
  · rw [getM_setM] at hq
    split at hq
    · rename_i e
      subst e
      cases hq
      exact ⟨hp, .inl rfl⟩
    · exact h.inn q v hq
  · rw [getM_setM] at hq
    split at hq
    · rename_i e
      subst e
      exact hno
    · exact h.no q hq
theorem Inv.length (h : Inv g st m) : m.length ≤ g.length * g.length := by
  have := nodup_sub (allP g.length) (m.map (·.1)) h.nodup (fun q hq => by
    obtain ⟨v, hv⟩ := getM_of_mem hq
    exact mem_allP (h.inn q v hv).1)
  rw [length_allP, List.length_map] at this
  exact this
theorem left_take {m : PM} {n : Nat} {p : Int × Int} {v : Int} (hn : InG n p) (hp : getM m p = some v) (hv : 0 < v) : leftM n (setM m p 0) < leftM n m := by
  refine sum_lt _ _ _ (fun q _ => ?_) ⟨p, mem_allP hn, ?_⟩
  · rw [statM_set]
    split
    · simp
    · exact Nat.le_refl _
  · rw [statM_set, if_pos rfl]
    simp [statM, hp, hv]
structure Solved (g : List GNode) (st : Bool) (m : PM) : Prop where
  inv : Inv g st m
  holds : ∀ p v, getM m p = some v → 0 < v → holdsM g st m p = (true, m)
theorem Solved.fits (h : Solved g st m) (hok : GraphOk g) : FitsM (mayX g st) m := by
  have hR : FitsM (fun q => decide (getM m q = some 1)) m := fun q v hq => by
    rcases (h.inv.inn q v hq).2 with rfl | rfl <;> simp [hq]
  intro q v hq
  rcases (h.inv.inn q v hq).2 with rfl | rfl
  · rw [h.inv.no q hq]
    rfl
  · refine may_great (R := fun q => decide (getM m q = some 1)) (fun p hp => ?_) (by simpa using hq)
    have hp1 : getM m p = some 1 := by simpa using hp
    have hh := h.holds p 1 hp1 (by decide)
    have := (holdsM_is (st := st) hok m (h.inv.inn p 1 hp1).1).2 _ (by rw [hh]; exact hR)
    rw [this, hh]
theorem membersG_one {n : Int} (h0 : 0 ≤ n) (h1 : n < g.length) (h8 : (gat g n).kind ≠ 8) : membersG g n = [n] := by
  unfold membersG
  rw [if_neg (by omega), if_neg h8]
theorem Solved.pick (h : Solved g st m) (hok : GraphOk g) {a b : Int} (hp : getM m (a, b) = some 1) (ha8 : (gat g a).kind ≠ 8) : pickM g st m a b = (pickX g st (mayX g st) a b, m) := by
  obtain ⟨h1, h2, h3, h4⟩ := (h.inv.inn _ _ hp).1
  simp only at h1 h2 h3 h4
  have hh := h.holds _ _ hp (by decide)
  unfold holdsM at hh
  simp only [membersG_one h1 h2 ha8] at hh
  have hm : (pickM g st m a b).2 = m := by
    unfold findS at hh
    split at hh
    · have := congrArg Prod.snd hh
      exact this
    · unfold findS at hh
      have := congrArg Prod.snd hh
      exact this
  have := (pickM_is (st := st) hok m h1 h2 ha8 ⟨h3, h4⟩).2 (mayX g st) (by rw [hm]; exact h.fits hok)
  rw [this]
  exact Prod.ext rfl hm
end
end Go.Proofs.YtndophlnapjkhaaGreatDoor.Vc
namespace Go.Proofs.YtndophlnapjkhaaGreatDoor.Vc
open Go Go.RowKit
set_option linter.unusedVariables false
structure RoundAt (g : List GNode) (st : Bool) (first : List (Int × Int)) (mr : PM) (all : List (Int × Int)) (k : Nat) (mk : PM) (f : Int) : Prop where
  inv : Inv g st mk
  firsts : ∀ q ∈ first, getM mk q ≠ none
  left : leftM g.length mk ≤ leftM g.length mr
  known : ∀ q ∈ all, getM mk q ≠ none
  flag : (f = -1 ∧ leftM g.length mk < leftM g.length mr) ∨ (f = mr.length ∧ Grows g.length mr mk ∧ (mk = mr → ∀ (j : Nat) q v, j < k → all[j]? = some q → getM mr q = some v → 0 < v → holdsM g st mr q = (true, mr)))
section
variable {g : List GNode} {st : Bool} {first : List (Int × Int)} {mr mk : PM} {all : List (Int × Int)} {k : Nat} {f : Int}
theorem known_grows {m m' : PM} {n : Nat} (h : Grows n m m') {q : Int × Int} (hq : getM m q ≠ none) : getM m' q ≠ none := by
  cases hg : getM m q with
  | none => exact absurd hg hq
  | some v => rw [h.keeps hg]; simp
theorem known_set {m : PM} {p q : Int × Int} {v : Int} (hq : getM m q ≠ none) : getM (setM m p v) q ≠ none := by
  rw [getM_setM]
  split
  · simp
  · exact hq
theorem RoundAt.start (hi : Inv g st mr) (hf : ∀ q ∈ first, getM mr q ≠ none) (ha : ∀ q ∈ all, getM mr q ≠ none) : RoundAt g st first mr all 0 mr mr.length :=
  ⟨hi, hf, Nat.le_refl _, ha, .inr ⟨rfl, .refl _, fun _ j q v hj => absurd hj (Nat.not_lt_zero _)⟩⟩
theorem RoundAt.skip (h : RoundAt g st first mr all k mk f) {p : Int × Int} (hp : all[k]? = some p) (h0 : ¬ 0 < (getM mk p).getD 0) : RoundAt g st first mr all (k + 1) mk f := by
  refine ⟨h.inv, h.firsts, h.left, h.known, ?_⟩
  rcases h.flag with hf | ⟨hf, hg, hall⟩
  · exact .inl hf
  · refine .inr ⟨hf, hg, fun he j q v hj hq hv h1 => ?_⟩
    rcases Nat.lt_or_eq_of_le (Nat.le_of_lt_succ hj) with hlt | rfl
    · exact hall he j q v hlt hq hv h1
    · rw [hp] at hq
      cases hq
      rw [he, hv] at h0
      exact absurd h1 h0
theorem RoundAt.keep (h : RoundAt g st first mr all k mk f) (hok : GraphOk g) {p : Int × Int} (hp : all[k]? = some p) (hin : InG g.length p) (hh : (holdsM g st mk p).1 = true) : RoundAt g st first mr all (k + 1) (holdsM g st mk p).2 f := by
  have hg1 := (holdsM_is (st := st) hok mk hin).1
  refine ⟨h.inv.grows hg1, fun q hq => known_grows hg1 (h.firsts q hq), Nat.le_trans hg1.left h.left, fun q hq => known_grows hg1 (h.known q hq), ?_⟩
  rcases h.flag with ⟨hf, hl⟩ | ⟨hf, hg, hall⟩
  · exact .inl ⟨hf, Nat.lt_of_le_of_lt hg1.left hl⟩
  · refine .inr ⟨hf, hg.trans hg1, fun he j q v hj hq hv h1 => ?_⟩
    have hmk : mk = mr := by
      refine hg.eq ?_
      have := hg.le
      have := hg1.le
      rw [he] at this
      omega
    rcases Nat.lt_or_eq_of_le (Nat.le_of_lt_succ hj) with hlt | rfl
    · exact hall hmk j q v hlt hq hv h1
    · rw [hp] at hq
      cases hq
      rw [hmk] at hh he
      exact Prod.ext hh he
theorem RoundAt.take (h : RoundAt g st first mr all k mk f) (hok : GraphOk g) {p : Int × Int} (hp : all[k]? = some p) (hin : InG g.length p) (h0 : 0 < (getM mk p).getD 0) (hh : (holdsM g st mk p).1 = false) : RoundAt g st first mr all (k + 1) (setM (holdsM g st mk p).2 p 0) (-1) := by
  have hg1 := (holdsM_is (st := st) hok mk hin)
  obtain ⟨v, hv, hv0⟩ : ∃ v, getM mk p = some v ∧ 0 < v := by
    cases hv : getM mk p with
    | none => rw [hv] at h0; simp at h0
    | some v => rw [hv] at h0; exact ⟨v, rfl, h0⟩
  have hl := left_take hin (hg1.1.keeps hv) hv0
  have hl2 := hg1.1.left
  have hl3 := h.left
  exact ⟨(h.inv.grows hg1.1).take hok hin (fun X hX => by rw [hg1.2 X hX, hh]), fun q hq => known_set (known_grows hg1.1 (h.firsts q hq)), by omega, fun q hq => known_set (known_grows hg1.1 (h.known q hq)), .inl ⟨rfl, by omega⟩⟩
theorem RoundAt.done (h : RoundAt g st first mr all all.length mk f) (hall : ∀ (j : Nat) q, mr[j]? = some q → q.1 ∈ all) (hf : f = (mk.length : Int)) : Solved g st mk := by
  rcases h.flag with ⟨h1, _⟩ | ⟨h1, hg, hh⟩
  · omega
  · have he : mk = mr := hg.eq (by omega)
    refine ⟨h.inv, fun p v hp hv => ?_⟩
    rw [he] at hp ⊢
    obtain ⟨q, hq, hqp⟩ := List.mem_map.1 (getM_mem hp)
    obtain ⟨j, hj⟩ := List.mem_iff_getElem?.1 hq
    have := hall j q hj
    rw [hqp] at this
    obtain ⟨i, hi⟩ := List.mem_iff_getElem?.1 this
    exact hh he i p v (List.getElem?_eq_some_iff.1 hi).1 hi hp hv
theorem RoundAt.again (h : RoundAt g st first mr all all.length mk f) (hf : ¬ f = (mk.length : Int)) : leftM g.length mk < leftM g.length mr := by
  rcases h.flag with ⟨_, h1⟩ | ⟨h1, hg, _⟩
  · exact h1
  · exact hg.left_lt (by omega)
theorem grant_known (m : PM) (p : Int × Int) : getM (grant m p).2 p ≠ none := by
  unfold grant
  cases h : getM m p with
  | none => simp [getM_setM]
  | some v => simp [h]
theorem ownsRow_slice {w : World} {base e sz n : Nat} {v : Value} {xs : List Value} (h : w.ownsRow base e sz v n xs) : ∃ A c, v = .slice A n c := by
  rcases h.2 with ⟨rfl, rfl⟩ | ⟨g, cap, cur, rfl, _⟩
  · exact ⟨none, 0, rfl⟩
  · exact ⟨_, _, rfl⟩
theorem pat_nat {l : List (Int × Int)} {k : Nat} (h : k < l.length) : l[k]? = some (l.getD (k : Int).toNat (0, 0)) := by
  rw [Int.toNat_natCast, List.getD_eq_getElem?_getD, List.getElem?_eq_getElem h]
  rfl
end
end Go.Proofs.YtndophlnapjkhaaGreatDoor.Vc
namespace Go.Proofs.YtndophlnapjkhaaGreatDoor.Vc
open Go Go.RowKit
set_option linter.unusedVariables false
set_option linter.unusedSimpArgs false
theorem info_pair : (Tryz.prog.info? 87).map (fun i => (i.zero, i.size, i.bytes)) = some (some (.agg #[.int .i64 0, .int .i64 0]), 2, 16) := by kernel_rfl
theorem solve_calls (w0 : World) (xb mb : Nat) (Ag : Option Addr) (cg : Nat) (g : List GNode) (hg : Nodes w0 Ag cg g) (hok : GraphOk g) (hn : g.length ≤ 2000) (st : Bool) (m : PM) (hinv : Inv g st m) (Af : Option Addr) (cf : Nat) (first : List (Int × Int)) (hf : PairsAt w0 Af cf first) (hfin : ∀ p ∈ first, InG g.length p) (hL : Has w0 (Sol xb mb (.slice Ag g.length cg) st  m)) :
    Calls Tryz.prog 75 [.pointer (some ⟨xb, 0, none⟩), .slice Af first.length cf].toArray w0 fun en w' => ∃ m', en = .returned (.tuple #[]) ∧ Solved g st m' ∧ (∀ q ∈ first, getM m' q ≠ none) ∧ Ext (fun k => k = mb) w0 w' ∧ Has w' (Sol xb mb (.slice Ag g.length cg) st  m') := by
  have hE : Ext (fun k => k = mb) w0 w0 := Ext.refl _ _
  have hNC := noCells_map (hL.get 1 rfl)
  have hnn : g.length * g.length ≤ 2000 * 2000 := Nat.mul_le_mul hn hn
  refine calls [] Tryz.func75 rfl rfl rfl rfl ?_
  refine c_scope ?_
  refine c_seq ?_
  refine c_seq ?_
  refine c_ops ?_
  refine l_val rfl rfl rfl (r_move rfl) ?_
  refine l_val rfl rfl rfl (r_len rfl Tryz.underlying122 rfl) ?_
  refine l_val rfl rfl rfl (r_move rfl) ?_
  refine l_nil ?_
  refine c_block ?_
  refine c_loop [5, 13, 14, 15, 16, 17, 18, 19, 20] (fun m1 e w => ∃ (k : Nat) (m' : PM), k ≤ first.length ∧ m1 = first.length - k ∧ e 13 = .int .i64 k ∧ Inv g st m' ∧ (∀ (j : Nat) q, j < k → first[j]? = some q → getM m' q ≠ none) ∧ Has w (Sol xb mb (.slice Ag g.length cg) st m') ∧ Ext (fun k => k = mb) w0 w) first.length ?_ ?_
  · exact ⟨0, m, Nat.zero_le _, rfl, rfl, hinv, fun j q h => absurd h (Nat.not_lt_zero _), hL, hE⟩
  intro m1 e w hI
  obtain ⟨k, m', hk, hm, h13, hinv', hkn', hL, hE⟩ := hI
  refine c_know h13 ?_
  refine c_seq ?_
  refine c_ops ?_
  refine l_val rfl rfl rfl (r_lss rfl rfl rfl) ?_
  refine l_nil ?_
  refine c_seq ?_
  refine c_cond rfl (fun hb => ?_) (fun hb => ?_)
  · have hr14 := hb
    replace hb := of_decide_eq_true hb
    have hkn : k < first.length := by omega
    have hpk := pat_nat hkn
    have hpin := hfin _ (List.mem_of_getElem? hpk)
    refine c_skip ?_
    refine c_seq ?_
    refine c_block ?_
    refine c_seq ?_
 
    refine c_ops ?_
    refine l_val rfl rfl rfl (r_indexAddr_sl rfl Tryz.underlying122 Tryz.sizeOf87 rfl hf.is rfl (by omega) (by omega)) ?_
    refine l_val rfl rfl rfl (r_load_agg (vs := cells2 (first.getD (k : Int).toNat (0, 0))) rfl Tryz.isAgg87 Tryz.sizeOf87 rfl ((hf.keep RPair.kept (hE.cells hNC)).pair k (by omega) (by omega))) ?_
    refine l_new rfl rfl rfl (n_alloc rfl Tryz.zeroValue87 hL hE) ?_
    rintro _ w ⟨b5, rfl, hb5, hL, hE, hX⟩
    refine l_new_do rfl rfl (r_store 0 rfl Tryz.sizeOf87 rfl hL hE rfl rfl rfl rfl (fun h => absurd h (Nat.not_lt.2 hb5))) ?_
    rintro w ⟨hL, hE, hz, hk⟩
    refine l_nil ?_
 
    refine c_ops ?_
    refine l_val rfl rfl rfl (r_move rfl) ?_
    refine l_val rfl rfl rfl (r_load_blk_agg rfl Tryz.isAgg87 Tryz.sizeOf87 rfl (hL.get 0 rfl) rfl) ?_
    refine l_by rfl rfl rfl (r_call rfl rfl Tryz.func91 rfl rfl) (granted_calls _ xb mb (.slice Ag g.length cg) st m' (first.getD (k : Int).toNat (0, 0)) (Has.right (L1 := [_]) hL)) ?_
    rintro _ w ⟨rfl, hX, hY⟩
    replace hL := Has.sol [_] hL hX hY
    replace hE := hE.trans hX
    have hgr := grant_is m' (first.getD (k : Int).toNat (0, 0)) hpin
    have hkn2 : ∀ (j : Nat) q, j < k + 1 → first[j]? = some q → getM (grant m' (first.getD (k : Int).toNat (0, 0))).2 q ≠ none := fun j q hj hq => by
      rcases Nat.lt_or_eq_of_le (Nat.le_of_lt_succ hj) with h | rfl
      · exact known_grows hgr.1 (hkn' j q h hq)
      · rw [hpk] at hq
        cases hq
        exact grant_known _ _
    refine ⟨_, rfl, ?_⟩
    refine l_nil ?_
 
    refine c_ops ?_
    refine l_val rfl rfl rfl (r_add rfl rfl rfl) ?_
    refine l_val rfl rfl rfl (r_move rfl) ?_
    refine l_nil ?_
    refine ⟨by repeat (first | exact Agree.over _ _ _ | exact Agree.refl _ _ | (refine Agree.puto ?_ _ _ rfl) | (refine Agree.put ?_ _ _ rfl) | (refine Agree.sub ?_ rfl)), ?_⟩
    exact ⟨first.length - (k + 1), by omega, k + 1, _, by omega, rfl, by show Value.int .i64 (IntKind.i64.wrap ((k : Int) + 1)) = _; rw [wrap_succ hkn hf.max], hinv'.grows hgr.1, hkn2, hL.tail, hE⟩
  · have hr14 := hb
    replace hb := of_decide_eq_false hb
    have hkn : first.length ≤ k := by omega
    have hfirst : ∀ q ∈ first, getM m' q ≠ none := fun q hq => by
      obtain ⟨j, hj⟩ := List.mem_iff_getElem?.1 hq
      exact hkn' j q (by have := (List.getElem?_eq_some_iff.1 hj).1; omega) hj
    refine c_exit ?_
    refine c_seq ?_
    refine c_label ?_
    refine c_block ?_
 
    refine c_loop [6, 7, 8, 10, 21, 22, 23, 24, 25, 26, 27, 28, 29, 30, 31, 32, 33, 34, 35, 36, 37, 38, 39, 40, 41, 42, 43, 44, 45, 46, 47, 48, 49, 50, 51, 52, 53, 54, 55, 56, 57, 58, 59, 60, 61, 62, 63, 64, 65, 66, 67, 68, 69, 70, 71, 72] (fun m1 e w => ∃ mr : PM, m1 = leftM g.length mr ∧ Inv g st mr ∧ (∀ q ∈ first, getM mr q ≠ none) ∧ Has w (Sol xb mb (.slice Ag g.length cg) st mr) ∧ Ext (fun k => k = mb) w0 w) (leftM g.length m') ?_ ?_
    · exact ⟨m', rfl, hinv', hfirst, hL, hE⟩
    intro m1 e w hI
    obtain ⟨mr, hm, hinvr, hfr, hL, hE⟩ := hI
    have hlen := hinvr.length
    refine c_block ?_
    refine c_seq ?_
 
    refine c_ops ?_
    refine l_val rfl rfl rfl (r_move rfl) ?_
    refine l_val rfl rfl rfl (r_nilCheck rfl rfl) ?_
    refine l_val rfl rfl rfl (r_fieldAddr (n := 0) rfl Tryz.underlying111 rfl Tryz.sizeOf109 rfl) ?_
    refine l_val rfl rfl rfl (r_load_blk rfl Tryz.isAgg109 rfl (hL.get 0 rfl) rfl) ?_
    refine l_val rfl rfl rfl (r_len_map rfl Tryz.underlying109 rfl (hL.get 1 rfl)) ?_
    refine l_val rfl rfl rfl (r_assign rfl) ?_
    refine l_nil ?_
    refine c_seq ?_
 
    refine c_ops ?_
    refine l_val rfl rfl rfl (r_move rfl) ?_
    refine l_new rfl rfl rfl (n_make0 rfl Tryz.underlying122 info_pair rfl rfl hL hE (by omega) (by omega)) ?_
    rintro _ w ⟨s27, rfl, hs27, hL, hE, hX⟩
    refine l_val rfl rfl rfl (r_assign rfl) ?_
    refine l_nil ?_
    refine c_seq ?_
    refine c_seq ?_
 
    refine c_ops ?_
    refine l_val rfl rfl rfl (r_move rfl) ?_
    refine l_val rfl rfl rfl (r_nilCheck rfl rfl) ?_
    refine l_val rfl rfl rfl (r_fieldAddr (n := 0) rfl Tryz.underlying111 rfl Tryz.sizeOf109 rfl) ?_
    refine l_val rfl rfl rfl (r_load_blk rfl Tryz.isAgg109 rfl (hL.get 1 rfl) rfl) ?_
    refine l_new rfl rfl rfl (n_range rfl Tryz.underlying109 rfl (hL.get 2 rfl) hL hE) ?_
    rintro _ w ⟨it32, rfl, hit32, hL, hE, hX⟩
    refine l_nil ?_
    refine c_block ?_
 
    refine c_loop [7, 8, 33, 34, 35, 36, 37, 38, 39, 40] (fun m1 e w => ∃ (seen : Array Nat) (all : List (Int × Int)) (A7 : Option Addr) (c7 : Nat), all.length = seen.size ∧ seen.toList.Nodup ∧ (∀ j ∈ seen, j < mr.length) ∧ (∀ (j : Nat) (q : (Int × Int) × Int), mr[j]? = some q → j ∈ seen → q.1 ∈ all) ∧ (∀ q ∈ all, getM mr q ≠ none) ∧ m1 = mr.length - seen.size ∧ e 7 = .slice A7 all.length c7 ∧ Has w ([.blk it32 (.mapIter (some mb) mr.length seen mr.length), .row w0.heap.size 87 2 (.slice A7 all.length c7) all.length (all.map cells2).flatten] ++ Sol xb mb (.slice Ag g.length cg) st mr) ∧ Ext (fun k => k = mb) w0 w) mr.length ?_ ?_
    · exact ⟨#[], [], _, _, rfl, by simp, by simp, by simp, by simp, rfl, rfl, hL, hE⟩
    intro m1 e w hI
    obtain ⟨seen, all, A7, c7, hal, hnd, hlt, hin, hkna, hm, h7, hL, hE⟩ := hI
    refine c_know h7 ?_
    refine c_seq ?_
 
    refine c_ops ?_
    refine l_new rfl rfl rfl (n_next 0 rfl rfl (hL.get 3 rfl) hL hE rfl (fun h => absurd h (Nat.not_lt.2 hit32))) ?_
    rintro _ w (⟨rfl, hall, hL, hE⟩ | ⟨j, q, rfl, hjq, hjs, hL, hE⟩)
    · have hallj : ∀ (j : Nat) (q : (Int × Int) × Int), mr[j]? = some q → q.1 ∈ all := fun j q hq => hin j q hq (hall j (List.getElem?_eq_some_iff.1 hq).1)
      refine l_val rfl rfl rfl (r_extract rfl rfl rfl) ?_
      refine l_nil ?_
      refine c_seq ?_
      refine c_no rfl ?_
      refine c_exit ?_
      refine c_seq ?_
      refine c_seq ?_
   
      refine c_ops ?_
      refine l_val rfl rfl rfl (r_move rfl) ?_
      refine l_val rfl rfl rfl (r_len rfl Tryz.underlying122 rfl) ?_
      refine l_val rfl rfl rfl (r_move rfl) ?_
      refine l_nil ?_
      refine c_block ?_
   
      refine c_loop [6, 10, 43, 44, 45, 46, 47, 48, 49, 50, 51, 52, 53, 54, 55, 56, 57, 58, 59, 60, 61, 62, 63, 64, 65] (fun m1 e w => ∃ (k : Nat) (mk : PM) (f : Int), k ≤ all.length ∧ m1 = all.length - k ∧ e 43 = .int .i64 k ∧ e 6 = .int .i64 f ∧ RoundAt g st first mr all k mk f ∧ Has w ([.blk it32 (.mapIter (some mb) mr.length seen mr.length), .row w0.heap.size 87 2 (.slice A7 all.length c7) all.length (all.map cells2).flatten] ++ Sol xb mb (.slice Ag g.length cg) st mk) ∧ Ext (fun k => k = mb) w0 w) all.length ?_ ?_
      · exact ⟨0, mr, mr.length, Nat.zero_le _, rfl, rfl, rfl, RoundAt.start hinvr hfr hkna, hL, hE⟩
      intro m1 e w hI
      obtain ⟨k, mk, f, hk, hm3, h43, h6, hR, hL, hE⟩ := hI
      refine c_know h43 ?_
      refine c_know (t := 6) (by exact h6) ?_
      refine c_seq ?_
   
      refine c_ops ?_
      refine l_val rfl rfl rfl (r_lss rfl rfl rfl) ?_
      refine l_nil ?_
      refine c_seq ?_
      refine c_cond rfl (fun hb => ?_) (fun hb => ?_)
      · have hr44 := hb
        replace hb := of_decide_eq_true hb
        have hkn : k < all.length := by omega
        have hallmax := (Sl.pairs_at (hL.row 1 rfl)).max
        have hpk := pat_nat hkn
        have hpin : InG g.length (all.getD (k : Int).toNat (0, 0)) := by
          have h1 := hR.known _ (List.mem_of_getElem? hpk)
          cases hv : getM mk (all.getD (k : Int).toNat (0, 0)) with
          | none => exact absurd hv h1
          | some v => exact (hR.inv.inn _ v hv).1
        refine c_skip ?_
        refine c_seq ?_
        refine c_block ?_
        refine c_seq ?_
     
        refine c_ops ?_
        refine l_val rfl rfl rfl (r_indexAddr_sl rfl Tryz.underlying122 Tryz.sizeOf87 rfl (Sl.pairs_at (hL.row 1 rfl)).is rfl (by omega) (by omega)) ?_
        refine l_val rfl rfl rfl (r_load_agg (vs := cells2 (all.getD (k : Int).toNat (0, 0))) rfl Tryz.isAgg87 Tryz.sizeOf87 rfl ((Sl.pairs_at (hL.row 1 rfl)).pair k (by omega) (by omega))) ?_
        refine l_new rfl rfl rfl (n_alloc rfl Tryz.zeroValue87 hL hE) ?_
        rintro _ w ⟨b10, rfl, hb10, hL, hE, hX⟩
        refine l_new_do rfl rfl (r_store 0 rfl Tryz.sizeOf87 rfl hL hE rfl rfl rfl rfl (fun h => absurd h (Nat.not_lt.2 hb10))) ?_
        rintro w ⟨hL, hE, hz, hk⟩
        refine l_nil ?_
        refine c_seq ?_
     
        refine c_draw mixed (hL.sub (.cons_cons _ (.cons_cons _ (.cons_cons _ (.cons_cons _ (.cons _ .slnil)))))) hE ?_
        replace hL := hL.drew
        replace hE := hE.drew
        have hK := hL.sub (.cons_cons _ (.cons_cons _ (.cons_cons _ (.cons_cons _ (.cons _ .slnil)))))
        refine h_t 0 rfl rfl (by kernel_rfl) (fun _ _ _ h => h) ⟨hK, hE⟩ rfl (fun W hW => r_move rfl) ?_
        refine h_t 1 rfl rfl (by kernel_rfl) (fun _ _ _ h => h) ⟨hK, hE⟩ rfl (fun W hW => r_nilCheck rfl rfl) ?_
        refine h_t 2 rfl rfl (by kernel_rfl) (fun _ _ _ h => h) ⟨hK, hE⟩ rfl (fun W hW => r_fieldAddr (n := 0) rfl Tryz.underlying111 rfl Tryz.sizeOf109 rfl) ?_
        refine h_t 3 rfl rfl (by kernel_rfl) (fun _ _ _ h => h) ⟨hK, hE⟩ rfl (fun W hW => r_load_blk rfl Tryz.isAgg109 rfl (hW.1.get 3 rfl) rfl) ?_
        refine h_t 4 rfl rfl (by kernel_rfl) (fun _ _ _ h => h) ⟨hK, hE⟩ rfl (fun W hW => r_load_blk_agg rfl Tryz.isAgg87 Tryz.sizeOf87 rfl (hW.1.get 0 rfl) rfl) ?_
        refine h_one 5 rfl rfl (by kernel_rfl) rfl (r_lookup_int (k := (all.getD (k : Int).toNat (0, 0))) rfl Tryz.underlying109 key_pair Tryz.zeroValue3 rfl rfl (hL.get 4 rfl)) ⟨hK, hE⟩ ?_
        refine h_t 6 rfl rfl (by kernel_rfl) (fun _ _ _ h => h) ⟨hK, hE⟩ rfl (fun W hW => r_gtr rfl rfl rfl) ?_
        refine h_t 7 rfl rfl (by kernel_rfl) (fun _ _ _ h => h) ⟨hK, hE⟩ rfl (fun W hW => r_move rfl) ?_
        refine h_case 54 rfl (fun hb => ?_) (fun hb => ?_)
        · have hr54 := hb
          replace hb := of_decide_eq_true hb
          have hb53 := hb
          refine h_t 8 rfl rfl (by kernel_rfl) (fun _ _ _ h => h) ⟨hK, hE⟩ rfl (fun W hW => r_move rfl) ?_
          refine h_t 9 rfl rfl (by kernel_rfl) (fun _ _ _ h => h) ⟨hK, hE⟩ rfl (fun W hW => r_load_blk_agg rfl Tryz.isAgg87 Tryz.sizeOf87 rfl (hW.1.get 0 rfl) rfl) ?_
          refine h_by 10 rfl rfl (by kernel_rfl) rfl (r_call rfl rfl Tryz.func92 rfl rfl) (holds_calls _ xb mb Ag cg g (hg.keep RNode.kept (hE.cells hNC)) hok st mk (all.getD (k : Int).toNat (0, 0)) (Has.right (L1 := [_, _, _]) hL)) ?_
          rintro _ w ⟨rfl, hX, hY⟩
          replace hL := Has.sol [_, _, _] hL hX hY
          replace hE := hE.trans hX
          have hK := hL.sub (.cons_cons _ (.cons_cons _ (.cons_cons _ (.cons_cons _ (.cons _ .slnil)))))
          refine ⟨_, rfl, ⟨hK, hE⟩, ?_⟩
          refine h_t 11 rfl rfl (by kernel_rfl) (fun _ _ _ h => h) ⟨hK, hE⟩ rfl (fun W hW => r_not rfl rfl) ?_
          refine h_t 12 rfl rfl (by kernel_rfl) (fun _ _ _ h => h) ⟨hK, hE⟩ rfl (fun W hW => r_pick rfl rfl) ?_
          refine h_done (by kernel_rfl) ?_
          refine c_cond rfl (fun hb => ?_) (fun hb => ?_)
          · have hr59 := hb
            have hR2 := hR.take hok hpk hpin hb53 (by simpa using hr59)
            refine c_seq ?_
         
            refine c_draw mixed (hL.sub (.cons_cons _ (.cons_cons _ (.cons_cons _ (.cons_cons _ (.cons _ .slnil)))))) hE ?_
            replace hL := hL.drew
            replace hE := hE.drew
            have hK := hL.sub (.cons_cons _ (.cons_cons _ (.cons_cons _ (.cons_cons _ (.cons _ .slnil)))))
            refine h_t 0 rfl rfl (by kernel_rfl) (fun _ _ _ h => h) ⟨hK, hE⟩ rfl (fun W hW => r_move rfl) ?_
            refine h_t 1 rfl rfl (by kernel_rfl) (fun _ _ _ h => h) ⟨hK, hE⟩ rfl (fun W hW => r_nilCheck rfl rfl) ?_
            refine h_t 2 rfl rfl (by kernel_rfl) (fun _ _ _ h => h) ⟨hK, hE⟩ rfl (fun W hW => r_fieldAddr (n := 0) rfl Tryz.underlying111 rfl Tryz.sizeOf109 rfl) ?_
            refine h_t 3 rfl rfl (by kernel_rfl) (fun _ _ _ h => h) ⟨hK, hE⟩ rfl (fun W hW => r_load_blk rfl Tryz.isAgg109 rfl (hW.1.get 3 rfl) rfl) ?_
            refine h_t 4 rfl rfl (by kernel_rfl) (fun _ _ _ h => h) ⟨hK, hE⟩ rfl (fun W hW => r_load_blk_agg rfl Tryz.isAgg87 Tryz.sizeOf87 rfl (hW.1.get 0 rfl) rfl) ?_
            refine h_new_do 5 rfl rfl (by kernel_rfl) rfl (r_mapUpdate (k := (all.getD (k : Int).toNat (0, 0))) (v := (0 : Int)) 4 rfl Tryz.underlying109 key_pair rfl rfl rfl hL hE rfl (fun _ => rfl)) ?_
            rintro w ⟨hL, hE, hz, hk⟩
            have hK := hL.sub (.cons_cons _ (.cons_cons _ (.cons_cons _ (.cons_cons _ (.cons _ .slnil)))))
            refine ⟨⟨hK, hE⟩, ?_⟩
            refine h_done (by kernel_rfl) ?_
         
            refine c_ops ?_
            refine l_val rfl rfl rfl (r_assign rfl) ?_
            refine l_nil ?_
         
            refine c_ops ?_
            refine l_val rfl rfl rfl (r_add rfl rfl rfl) ?_
            refine l_val rfl rfl rfl (r_move rfl) ?_
            refine l_nil ?_
            refine ⟨by repeat (first | exact Agree.over _ _ _ | exact Agree.refl _ _ | (refine Agree.puto ?_ _ _ rfl) | (refine Agree.put ?_ _ _ rfl) | (refine Agree.sub ?_ rfl)), ?_⟩
            exact ⟨all.length - (k + 1), by omega, k + 1, _, _, by omega, rfl, by show Value.int .i64 (IntKind.i64.wrap ((k : Int) + 1)) = _; rw [wrap_succ hkn hallmax], rfl, hR2, hL.tail, hE⟩
          · have hr59 := hb
            have hR2 := hR.keep hok hpk hpin (by simpa using hr59)
            refine c_skip ?_
         
            refine c_ops ?_
            refine l_val rfl rfl rfl (r_add rfl rfl rfl) ?_
            refine l_val rfl rfl rfl (r_move rfl) ?_
            refine l_nil ?_
            refine ⟨by repeat (first | exact Agree.over _ _ _ | exact Agree.refl _ _ | (refine Agree.puto ?_ _ _ rfl) | (refine Agree.put ?_ _ _ rfl) | (refine Agree.sub ?_ rfl)), ?_⟩
            exact ⟨all.length - (k + 1), by omega, k + 1, _, _, by omega, rfl, by show Value.int .i64 (IntKind.i64.wrap ((k : Int) + 1)) = _; rw [wrap_succ hkn hallmax], rfl, hR2, hL.tail, hE⟩
        · have hr54 := hb
          replace hb := of_decide_eq_false hb
          have hR2 := hR.skip hpk hb
          refine h_n 8 rfl rfl (by kernel_rfl) (fun _ _ _ h => h) ⟨hK, hE⟩ rfl ?_
          refine h_n 9 rfl rfl (by kernel_rfl) (fun _ _ _ h => h) ⟨hK, hE⟩ rfl ?_
          refine h_n 10 rfl rfl (by kernel_rfl) (fun _ _ _ h => h) ⟨hK, hE⟩ rfl ?_
          refine h_n 11 rfl rfl (by kernel_rfl) (fun _ _ _ h => h) ⟨hK, hE⟩ rfl ?_
          refine h_t 12 rfl rfl (by kernel_rfl) (fun _ _ _ h => h) ⟨hK, hE⟩ rfl (fun W hW => r_pick rfl rfl) ?_
          refine h_done (by kernel_rfl) ?_
          refine c_no rfl ?_
          refine c_skip ?_
       
          refine c_ops ?_
          refine l_val rfl rfl rfl (r_add rfl rfl rfl) ?_
          refine l_val rfl rfl rfl (r_move rfl) ?_
          refine l_nil ?_
          refine ⟨by repeat (first | exact Agree.over _ _ _ | exact Agree.refl _ _ | (refine Agree.puto ?_ _ _ rfl) | (refine Agree.put ?_ _ _ rfl) | (refine Agree.sub ?_ rfl)), ?_⟩
          exact ⟨all.length - (k + 1), by omega, k + 1, _, _, by omega, rfl, by show Value.int .i64 (IntKind.i64.wrap ((k : Int) + 1)) = _; rw [wrap_succ hkn hallmax], rfl, hR2, hL.tail, hE⟩
      · have hr44 := hb
        replace hb := of_decide_eq_false hb
        obtain rfl : k = all.length := by omega
        refine c_exit ?_
        refine c_seq ?_
     
        refine c_ops ?_
        refine l_val rfl rfl rfl (r_move rfl) ?_
        refine l_val rfl rfl rfl (r_move rfl) ?_
        refine l_val rfl rfl rfl (r_nilCheck rfl rfl) ?_
        refine l_val rfl rfl rfl (r_fieldAddr (n := 0) rfl Tryz.underlying111 rfl Tryz.sizeOf109 rfl) ?_
        refine l_val rfl rfl rfl (r_load_blk rfl Tryz.isAgg109 rfl (hL.get 2 rfl) rfl) ?_
        refine l_val rfl rfl rfl (r_len_map rfl Tryz.underlying109 rfl (hL.get 3 rfl)) ?_
        refine l_val rfl rfl rfl (r_eql rfl rfl rfl) ?_
        refine l_nil ?_
        refine c_cond rfl (fun hb => ?_) (fun hb => ?_)
        · have hr72 := hb
          replace hb := of_decide_eq_true hb
          refine c_exit ?_
          exact ⟨mk, rfl, hR.done hallj hb, hR.firsts, hE, hL.tail.tail⟩
        · have hr72 := hb
          replace hb := of_decide_eq_false hb
          refine c_skip ?_
          refine ⟨by repeat (first | exact Agree.over _ _ _ | exact Agree.refl _ _ | (refine Agree.puto ?_ _ _ rfl) | (refine Agree.put ?_ _ _ rfl) | (refine Agree.sub ?_ rfl)), ?_⟩
          exact ⟨leftM g.length mk, by have := hR.again hb; omega, mk, rfl, hR.inv, hR.firsts, hL.tail.tail, hE⟩
    · have hjl : j < mr.length := (List.getElem?_eq_some_iff.1 hjq).1
      have hnd2 : (seen.push j).toList.Nodup := by
        rw [Array.toList_push, List.nodup_append]
        refine ⟨hnd, by simp, ?_⟩
        rintro a ha b hb rfl
        rw [List.mem_singleton] at hb
        subst hb
        exact hjs (by simpa using ha)
      have hlt2 : ∀ i ∈ seen.push j, i < mr.length := fun i hi => by
        rcases Array.mem_push.1 hi with h | rfl
        · exact hlt i h
        · exact hjl
      have hsz : (seen.push j).size ≤ mr.length := by
        have := nodup_sub (List.range mr.length) (seen.push j).toList hnd2 (fun i hi => List.mem_range.2 (hlt2 i (by simpa using hi)))
        simpa using this
      rw [Array.size_push] at hsz
      have hin2 : ∀ (i : Nat) (p : (Int × Int) × Int), mr[i]? = some p → i ∈ seen.push j → p.1 ∈ all ++ [q.1] := fun i p hp hi => by
        rw [List.mem_append]
        rcases Array.mem_push.1 hi with h | rfl
        · exact .inl (hin i p hp h)
        · rw [hjq] at hp
          cases hp
          exact .inr (List.mem_singleton.2 rfl)
      have hkna2 : ∀ p ∈ all ++ [q.1], getM mr p ≠ none := fun p hp => by
        rcases List.mem_append.1 hp with h | h
        · exact hkna p h
        · rw [List.mem_singleton] at h
          subst h
          obtain ⟨v, hv⟩ := getM_of_mem (List.mem_map_of_mem (f := (·.1)) (List.mem_of_getElem? hjq))
          rw [hv]
          simp
      refine l_val rfl rfl rfl (r_extract rfl rfl rfl) ?_
      refine l_nil ?_
      refine c_seq ?_
      refine c_yes rfl ?_
      refine c_skip ?_
      refine c_block ?_
      refine c_seq ?_
   
      refine c_ops ?_
      refine l_val rfl rfl rfl (r_entry rfl rfl (hL.get 3 rfl) (hL.get 0 rfl) hjq) ?_
      refine l_val rfl rfl rfl (r_extract rfl rfl rfl) ?_
      refine l_new rfl rfl rfl (n_alloc rfl Tryz.zeroValue87 hL hE) ?_
      rintro _ w ⟨b8, rfl, hb8, hL, hE, hX⟩
      refine l_new_do rfl rfl (r_store 0 rfl Tryz.sizeOf87 rfl hL hE rfl rfl rfl rfl (fun h => absurd h (Nat.not_lt.2 hb8))) ?_
      rintro w ⟨hL, hE, hz, hk⟩
      refine l_nil ?_
   
      refine c_ops ?_
      replace hL : Has w ([.blk b8 (.cells #[.int .i64 q.1.1, .int .i64 q.1.2] 87 (0, 0)), .blk it32 (.mapIter (some mb) mr.length (seen.push j) mr.length), .row w0.heap.size 87 2 (.slice A7 all.length c7) all.length (all.map cells2).flatten] ++ Sol xb mb (.slice Ag g.length cg) st mr) := hL
      refine l_val rfl rfl rfl (r_move rfl) ?_
      refine l_val rfl rfl rfl (r_load_agg (vs := cells2 q.1) rfl Tryz.isAgg87 Tryz.sizeOf87 rfl (blk_raw (cs := #[.int .i64 q.1.1, .int .i64 q.1.2]) (hL.get 0 rfl) rfl)) ?_
      refine l_new rfl rfl rfl (n_slice (cells := #[.int .i64 q.1.1, .int .i64 q.1.2]) rfl Tryz.underlying122 Tryz.sizeOf87 Tryz.zeroValue87 rfl rfl (fill_pair q.1.1 q.1.2) hL hE) ?_
      rintro _ w ⟨s39, rfl, hs39, hL, hE, hX⟩
      refine l_new rfl rfl rfl (r_append (ys := cells2 q.1) 3 rfl Tryz.underlying122 info_pair rfl (by decide) rfl rfl hL hE rfl rfl (blk_raw (cs := #[.int .i64 q.1.1, .int .i64 q.1.2]) (hL.get 0 rfl) rfl) (fun u hu => by simp [cells2] at hu; rcases hu with rfl | rfl <;> rfl) (by omega) (by omega) (Nat.le_refl _) hE.size) ?_
      rintro _ w ⟨hL, hE, hk⟩
      obtain ⟨A8, c8, rfl⟩ := ownsRow_slice (hL.row 3 rfl)
      replace hL : Has w ([.blk s39 (.cells #[.int .i64 q.1.1, .int .i64 q.1.2] 87 (0, 0)), .blk b8 (.cells #[.int .i64 q.1.1, .int .i64 q.1.2] 87 (0, 0)), .blk it32 (.mapIter (some mb) mr.length (seen.push j) mr.length), .row w0.heap.size 87 2 (.slice A8 (all ++ [q.1]).length c8) (all ++ [q.1]).length ((all ++ [q.1]).map cells2).flatten] ++ Sol xb mb (.slice Ag g.length cg) st mr) := by rw [← pairs_snoc, List.length_append]; exact hL
      refine l_val rfl rfl rfl (r_assign rfl) ?_
      refine l_nil ?_
      refine ⟨by repeat (first | exact Agree.over _ _ _ | exact Agree.refl _ _ | (refine Agree.puto ?_ _ _ rfl) | (refine Agree.put ?_ _ _ rfl) | (refine Agree.sub ?_ rfl)), ?_⟩
      exact ⟨mr.length - (seen.push j).size, by rw [Array.size_push]; omega, seen.push j, all ++ [q.1], A8, c8, by simp [hal], hnd2, hlt2, hin2, hkna2, rfl, by rw [List.length_append]; rfl, hL.tail.tail, hE⟩
end Go.Proofs.YtndophlnapjkhaaGreatDoor.Vc
namespace Go.Proofs.YtndophlnapjkhaaGreatDoor.Vc
open Go Go.RowKit
set_option linter.unusedVariables false
set_option linter.unusedSimpArgs false
theorem check_ok {g : List GNode} (hok : GraphOk g) (hn : g.length ≤ 2000) : checkG g = 0 := by
  unfold checkG
  rw [if_neg (by omega), if_pos]
  rw [List.all_eq_true]
  exact hok.may
theorem built_solver (A : Option Addr) (n c : Nat) (st : Bool) (mb : Nat) : Tryz.prog.built 111 [(0, .slice A n c), (1, .bool st), (2, .map (some mb))] = some #[.slice A n c, .bool st, .map (some mb)] := by kernel_rfl
theorem of1_calls (w0 : World) (b : Nat) (A : Option Addr) (n c : Nat) (t : TypeId) (k : Int) (hL : Has w0 [.blk b (.cells #[.slice A n c] t (0, 0))]) : Calls Tryz.prog 90 [.int .i64 k, .pointer (some ⟨b, 0, none⟩)].toArray w0 fun en w' => en = .returned (.bool (outB n k)) ∧ Ext0 w0 w' := by
  have hE : Ext0 w0 w0 := Ext.refl _ _
  refine calls [3] Tryz.func90 rfl rfl rfl rfl ?_
  refine c_seq ?_
  refine c_ops ?_
  refine l_val rfl rfl rfl (r_assign rfl) ?_
  refine l_nil ?_
  refine c_seq ?_
  refine c_ops ?_
  refine l_val rfl rfl rfl (r_move rfl) ?_
  refine l_val rfl rfl rfl (r_lss rfl rfl rfl) ?_
  refine l_val rfl rfl rfl (r_move rfl) ?_
  refine l_case 6 rfl (fun hb => ?_) (fun hb => ?_)
  · have hr6 := hb
    replace hb := of_decide_eq_true hb
    refine l_not rfl rfl rfl ?_
    refine l_not rfl rfl rfl ?_
    refine l_not rfl rfl rfl ?_
    refine l_not rfl rfl rfl ?_
    refine l_val rfl rfl rfl (r_pick rfl rfl) ?_
    refine l_val rfl rfl rfl (r_assign rfl) ?_
    refine l_nil ?_
    refine c_ret ?_
    exact ⟨ret_bool rfl (by simp only [outB, hr6, Bool.true_and, Bool.and_true, Bool.false_and, Bool.and_false, Bool.true_or, Bool.or_true, Bool.false_or, Bool.or_false, Bool.not_true, Bool.not_false, cond_true, cond_false]), hE⟩
  · have hr6 := hb
    replace hb := of_decide_eq_false hb
    refine l_val rfl rfl rfl (r_move rfl) ?_
    refine l_val rfl rfl rfl (r_load_blk rfl Tryz.isAgg22 rfl (hL.get 0 rfl) rfl) ?_
    refine l_val rfl rfl rfl (r_len rfl Tryz.underlying22 rfl) ?_
    refine l_val rfl rfl rfl (r_geq rfl rfl rfl) ?_
    refine l_val rfl rfl rfl (r_pick rfl rfl) ?_
    refine l_val rfl rfl rfl (r_assign rfl) ?_
    refine l_nil ?_
    refine c_ret ?_
    exact ⟨ret_bool rfl (by simp only [outB, hr6, Bool.true_and, Bool.and_true, Bool.false_and, Bool.and_false, Bool.true_or, Bool.or_true, Bool.false_or, Bool.or_false, Bool.not_true, Bool.not_false, cond_true, cond_false]), hE⟩
theorem of_calls (w0 : World) (Ag : Option Addr) (cg : Nat) (g : List GNode) (hg : Nodes w0 Ag cg g) (hok : GraphOk g) (hn : g.length ≤ 2000) (hk0 : KeysLaid w0) (st : Bool) (Ap : Option Addr) (cp : Nat) (places : List Int) (hp : Ints w0 Ap cp places) (hin : ∀ k ∈ places, 0 ≤ k ∧ k < g.length) :
    Calls Tryz.prog 74 [.slice Ag g.length cg, .bool st, .slice Ap places.length cp].toArray w0 fun en w' => ∃ xb mb, en = .returned (.tuple #[.pointer (some ⟨xb, 0, none⟩), .bool true]) ∧ w0.heap.size ≤ xb ∧ w0.heap.size ≤ mb ∧ Has w' (Sol xb mb (.slice Ag g.length cg) st  []) ∧ Ext0 w0 w' := by
  have hE : Ext0 w0 w0 := Ext.refl _ _
  have hL : Has w0 [] := trivial
  have hchk := check_ok hok hn
  have hany : places.any (outB g.length) = false := by
    rw [List.any_eq_false]
    intro k hk
    have := hin k hk
    simp [outB]
    omega
  refine calls [6, 7] Tryz.func74 rfl rfl rfl rfl ?_
  refine c_seq ?_
  refine c_ops ?_
  refine l_new rfl rfl rfl (n_box rfl hL hE) ?_
  rintro _ w ⟨b3, rfl, hb3, hL, hE, hX⟩
  refine l_val rfl rfl rfl (r_assign rfl) ?_
  refine l_val rfl rfl rfl (r_assign rfl) ?_
  refine l_nil ?_
  refine c_seq ?_
  refine c_seq ?_
  refine c_ops ?_
  refine l_val rfl rfl rfl (r_load_blk rfl Tryz.isAgg22 rfl (hL.get 0 rfl) rfl) ?_
  refine l_by rfl rfl rfl (r_call rfl rfl Tryz.func26 rfl rfl) (Check_calls _ Ag cg g (hg.keep RNode.kept (Ext0.cells hE)) hok.fits (hk0.keep (Ext0.cells hE))) ?_
  rintro _ w ⟨rfl, hX⟩
  replace hL := hL.ext0 hX
  replace hE := hE.step0 hX
  refine ⟨_, rfl, ?_⟩
  refine l_val rfl rfl rfl (r_neq rfl rfl rfl) ?_
  refine l_val rfl rfl rfl (r_move rfl) ?_
  refine l_case 11 rfl (fun hb => ?_) (fun hb => ?_)
  · have hr11 := hb
    replace hb := of_decide_eq_false (by simpa using hb)
    rw [hchk] at hb
    exact absurd rfl hb
  · have hr11 := hb
    replace hb := of_decide_eq_true (by simpa using hb)
    refine l_val rfl rfl rfl (r_move rfl) ?_
    refine l_val rfl rfl rfl (r_makeFunc rfl) ?_
    have hT : Tests Tryz.prog (fun (_ : Unit) W => Has W [.blk b3 (.cells #[.slice Ag g.length cg] 22 (0, 0))]) (fun _ => False) (D1 RInt) (fun _ k => (outB g.length k, ())) (.func (.func 90) #[] #[.pointer (some ⟨b3, 0, none⟩)]) := ⟨_, _, _, _, _, rfl, Tryz.func90, rfl, rfl, fun _ k v W hs hv => (by
      obtain rfl : v = .int .i64 k := by injection hv
      exact (of1_calls W b3 Ag g.length cg _ k hs).mono (fun en w' ⟨h1, h2⟩ => ⟨h1, h2, hs.ext0 h2⟩))⟩
    refine l_by rfl rfl rfl (r_call rfl rfl Tryz.func42 rfl rfl) (ContainsFunc_int (fun (_ : Unit) W => Has W [.blk b3 (.cells #[.slice Ag g.length cg] 22 (0, 0))]) (fun _ => False) RInt (fun _ k => (outB g.length k, ())) _ _ _ _ places _ () (fun W hW => hp.keep RInt.kept (Ext0.cells (hE.trans hW))) hT hL) ?_
    rintro _ w ⟨rfl, hX, hL⟩
    replace hE := hE.step0 hX
    rw [findS_pure]
    refine ⟨_, rfl, ?_⟩
    refine l_val rfl rfl rfl (r_pick rfl rfl) ?_
    refine l_nil ?_
    refine c_cond rfl (fun hb => ?_) (fun hb => ?_)
    · have hr15 := hb
      rw [hany] at hb
      cases hb
    · have hr15 := hb
      refine c_skip ?_
      refine c_seq ?_
   
      refine c_ops ?_
      refine l_val rfl rfl rfl (r_load_blk rfl Tryz.isAgg22 rfl (hL.get 0 rfl) rfl) ?_
      refine l_val rfl rfl rfl (r_move rfl) ?_
      refine l_new rfl rfl rfl (n_makeMap rfl hL hE) ?_
      rintro _ w ⟨m18, rfl, hm18, hL, hE, hX⟩
      refine l_val rfl rfl rfl (r_build rfl rfl (built_solver _ _ _ _ _)) ?_
      refine l_new rfl rfl rfl (n_box rfl hL hE) ?_
      rintro _ w ⟨b20, rfl, hb20, hL, hE, hX⟩
      refine l_val rfl rfl rfl (r_assign rfl) ?_
      refine l_val rfl rfl rfl (r_assign rfl) ?_
      refine l_nil ?_
      refine c_ret ?_
      exact ⟨_, _, rfl, hb20, hm18, hL.sub (.cons_cons _ (.cons_cons _ (.cons _ .slnil))), hE⟩
theorem ext_own {w0 w w' : World} {mb : Nat} (hE : Ext0 w0 w) (hX : Ext (fun k => k = mb) w w') (hm : w0.heap.size ≤ mb) : Ext0 w0 w' := hE.step hX (fun i hi e => by omega)
theorem Has.addSol {w w' : World} {L : List Res} {xb mb : Nat} {A : Value} {st : Bool} {m : PM} (h : Has w L) (hE : Ext0 w w') (hS : Has w' (Sol xb mb A st m)) (hx : w.heap.size ≤ xb) (hm : w.heap.size ≤ mb) : Has w' (L ++ Sol xb mb A st m) :=
  Has.frame (L1 := L) (L2 := []) (by simpa using h) hE hS (fun _ h => h.elim) (fun r hr b hb => by
    refine .inr ?_
    rcases List.mem_cons.1 hr with rfl | hr
    · have : xb = b := by simpa [Res.foot] using hb
      omega
    · rw [List.mem_singleton] at hr
      subst hr
      have : mb = b := by simpa [Res.foot] using hb
      omega)
theorem fits_get {g : List GNode} {st : Bool} {m : PM} (hs : Solved g st m) (hok : GraphOk g) {p : Int × Int} (hp : getM m p ≠ none) : decide (0 < (getM m p).getD 0) = mayX g st p := by
  cases hv : getM m p with
  | none => exact absurd hv hp
  | some v => exact (hs.fits hok p v hv).symm
theorem asked_calls (w0 : World) (Ag : Option Addr) (cg : Nat) (g : List GNode) (hg : Nodes w0 Ag cg g) (hok : GraphOk g) (hn : g.length ≤ 2000) (hk0 : KeysLaid w0) (st : Bool) (p : Int × Int) (hp : InG g.length p) :
    Calls Tryz.prog 51 [.slice Ag g.length cg, .bool st, enc2 p].toArray w0 fun en w' => en = .returned (.bool (mayX g st p)) ∧ Ext0 w0 w' := by
  have hE : Ext0 w0 w0 := Ext.refl _ _
  have hL : Has w0 [] := trivial
  refine calls [6] Tryz.func51 rfl rfl rfl rfl ?_
  refine c_seq ?_
  refine c_ops ?_
  refine l_new rfl rfl rfl (n_box rfl hL hE) ?_
  rintro _ w ⟨b5, rfl, hb5, hL, hE, hX⟩
  refine l_val rfl rfl rfl (r_assign rfl) ?_
  refine l_nil ?_
  refine c_seq ?_
  refine c_ops ?_
  refine l_val rfl rfl rfl (r_move rfl) ?_
  refine l_val rfl rfl rfl (r_move rfl) ?_
  refine l_val rfl rfl rfl (r_fieldAddr (n := 0) rfl Tryz.underlying87 rfl Tryz.sizeOf3 rfl) ?_
  refine l_val rfl rfl rfl (r_load_blk rfl Tryz.isAgg3 rfl (hL.get 0 rfl) rfl) ?_
  refine l_val rfl rfl rfl (r_fieldAddr (n := 0) rfl Tryz.underlying87 rfl Tryz.sizeOf3 rfl) ?_
  refine l_val rfl rfl rfl (r_load_blk rfl Tryz.isAgg3 rfl (hL.get 0 rfl) rfl) ?_
  refine l_new rfl rfl rfl (n_slice rfl Tryz.underlying26 Tryz.sizeOf3 Tryz.zeroValue3 rfl rfl rfl hL hE) ?_
  rintro _ w ⟨s16, rfl, hs16, hL, hE, hX⟩
  refine l_by rfl rfl rfl (r_call rfl rfl Tryz.func74 rfl rfl) (of_calls _ Ag cg g (hg.keep RNode.kept (Ext0.cells hE)) hok hn (hk0.keep (Ext0.cells hE)) st _ _ [p.1, p.2] (Sl.ofBlk1 (hL.get 0 rfl) rfl (Nat.le_refl _) (by simp) (fun i x hi => by
    match i, hi with
    | 0, hi => cases hi; exact ⟨_, rfl, rfl⟩
    | 1, hi => cases hi; exact ⟨_, rfl, rfl⟩)) (fun k hk => by
    simp only [List.mem_cons, List.not_mem_nil, or_false] at hk
    rcases hk with rfl | rfl
    · exact ⟨hp.1, hp.2.1⟩
    · exact ⟨hp.2.2.1, hp.2.2.2⟩)) ?_
  rintro _ w ⟨xb, mb, rfl, hxb, hmb, hS, hX⟩
  have hm0 := Nat.le_trans hE.size hmb
  replace hL := hL.addSol hX hS hxb hmb
  replace hE := hE.trans hX
  refine ⟨_, rfl, ?_⟩
  refine l_val rfl rfl rfl (r_move rfl) ?_
  refine l_val rfl rfl rfl (r_extract rfl rfl rfl) ?_
  refine l_val rfl rfl rfl (r_extract rfl rfl rfl) ?_
  refine l_val rfl rfl rfl (r_assign rfl) ?_
  refine l_val rfl rfl rfl (r_assign rfl) ?_
  refine l_nil ?_
  refine c_seq ?_
  refine c_seq ?_
  refine c_ops ?_
  refine l_val rfl rfl rfl (r_move rfl) ?_
  refine l_val rfl rfl rfl (r_not rfl rfl) ?_
  refine l_nil ?_
  refine c_no rfl ?_
  refine c_skip ?_
  refine c_seq ?_
  refine c_ops ?_
  refine l_val rfl rfl rfl (r_move rfl) ?_
  refine l_val rfl rfl rfl (r_load_agg (vs := cells2 p) rfl Tryz.isAgg87 Tryz.sizeOf87 rfl (blk_raw (cs := #[.int .i64 p.1, .int .i64 p.2]) (hL.get 1 rfl) rfl)) ?_
  refine l_new rfl rfl rfl (n_slice (cells := #[.int .i64 p.1, .int .i64 p.2]) rfl Tryz.underlying122 Tryz.sizeOf87 Tryz.zeroValue87 rfl rfl (fill_pair _ _) hL hE) ?_
  rintro _ w ⟨s24, rfl, hs24, hL, hE, hX⟩
  refine l_by rfl rfl rfl (r_call rfl rfl Tryz.func75 rfl rfl) (solve_calls _ xb mb Ag cg g (hg.keep RNode.kept (Ext0.cells hE)) hok hn st [] Inv.nil _ _ [p] (Sl.pairs_at (l := [p]) ((Has.asRow (n := 1) (sz := 2) hL (Nat.zero_le _) rfl (by decide)).row 0 rfl)) (fun q hq => by rw [List.mem_singleton] at hq; subst hq; exact hp) (Has.right (L1 := [_, _, _]) hL)) ?_
  rintro _ w ⟨m', rfl, hsol, hkn, hX, hY⟩
  replace hL := Has.sol [_, _, _] hL hX hY
  replace hE := ext_own hE hX hm0
  refine ⟨_, rfl, ?_⟩
  refine l_nil ?_
  refine c_seq ?_
  refine c_draw mixed (hL) hE ?_
  replace hL := hL.drew
  replace hE := hE.drew
  have hK := hL
  refine h_t 0 rfl rfl (by kernel_rfl) (fun _ _ _ h => h) ⟨hK, hE⟩ rfl (fun W hW => r_move rfl) ?_
  refine h_t 1 rfl rfl (by kernel_rfl) (fun _ _ _ h => h) ⟨hK, hE⟩ rfl (fun W hW => r_nilCheck rfl rfl) ?_
  refine h_t 2 rfl rfl (by kernel_rfl) (fun _ _ _ h => h) ⟨hK, hE⟩ rfl (fun W hW => r_fieldAddr (n := 0) rfl Tryz.underlying111 rfl Tryz.sizeOf109 rfl) ?_
  refine h_t 3 rfl rfl (by kernel_rfl) (fun _ _ _ h => h) ⟨hK, hE⟩ rfl (fun W hW => r_load_blk rfl Tryz.isAgg109 rfl (hW.1.get 3 rfl) rfl) ?_
  refine h_t 4 rfl rfl (by kernel_rfl) (fun _ _ _ h => h) ⟨hK, hE⟩ rfl (fun W hW => r_load_blk_agg rfl Tryz.isAgg87 Tryz.sizeOf87 rfl (hW.1.get 2 rfl) rfl) ?_
  refine h_one 5 rfl rfl (by kernel_rfl) rfl (r_lookup_int (k := p) rfl Tryz.underlying109 key_pair Tryz.zeroValue3 rfl rfl (hL.get 4 rfl)) ⟨hK, hE⟩ ?_
  refine h_t 6 rfl rfl (by kernel_rfl) (fun _ _ _ h => h) ⟨hK, hE⟩ rfl (fun W hW => r_gtr rfl rfl rfl) ?_
  refine h_t 7 rfl rfl (by kernel_rfl) (fun _ _ _ h => h) ⟨hK, hE⟩ rfl (fun W hW => r_assign rfl) ?_
  refine h_done (by kernel_rfl) ?_
  refine c_ret ?_
  exact ⟨ret_bool rfl (fits_get hsol hok (hkn p (List.mem_singleton.2 rfl))), hE⟩
theorem May_calls (w0 : World) (Ag : Option Addr) (cg : Nat) (g : List GNode) (hg : Nodes w0 Ag cg g) (hok : GraphOk g) (hn : g.length ≤ 2000) (hk0 : KeysLaid w0) (a b : Int) (hp : InG g.length (a, b)) :
    Calls Tryz.prog 28 [.slice Ag g.length cg, .int .i64 a, .int .i64 b].toArray w0 fun en w' => en = .returned (.bool (mayX g false (a, b))) ∧ Ext0 w0 w' := by
  have hE : Ext0 w0 w0 := Ext.refl _ _
  refine calls [6] Tryz.func28 rfl rfl rfl rfl ?_
  refine c_seq ?_
  refine c_ops ?_
  refine l_val rfl rfl rfl (r_assign rfl) ?_
  refine l_nil ?_
  refine c_seq ?_
  refine c_ops ?_
  refine l_val rfl rfl rfl (r_move rfl) ?_
  refine l_val rfl rfl rfl (r_move rfl) ?_
  refine l_val rfl rfl rfl (r_move rfl) ?_
  refine l_val rfl rfl rfl (r_build rfl rfl (built_pair _ _)) ?_
  refine l_by rfl rfl rfl (r_call rfl rfl Tryz.func51 rfl rfl) (asked_calls _ Ag cg g (hg.keep RNode.kept (Ext0.cells hE)) hok hn (hk0.keep (Ext0.cells hE)) false (a, b) hp) ?_
  rintro _ w ⟨rfl, hX⟩
  replace hE := hE.trans hX
  refine ⟨_, rfl, ?_⟩
  refine l_val rfl rfl rfl (r_assign rfl) ?_
  refine l_nil ?_
  refine c_ret ?_
  exact ⟨rfl, hE⟩
theorem Pick_calls (w0 : World) (Ag : Option Addr) (cg : Nat) (g : List GNode) (hg : Nodes w0 Ag cg g) (hok : GraphOk g) (hn : g.length ≤ 2000) (hk0 : KeysLaid w0) (a b : Int) (hp : InG g.length (a, b)) (ha8 : (gat g a).kind ≠ 8) (hmay : mayX g false (a, b) = true) :
    Calls Tryz.prog 52 [.slice Ag g.length cg, .int .i64 a, .int .i64 b].toArray w0 fun en w' => en = .returned (.int .i64 (pickX g false (mayX g false) a b)) ∧ Ext0 w0 w' := by
  have hE : Ext0 w0 w0 := Ext.refl _ _
  have hL : Has w0 [] := trivial
  obtain ⟨Ak, ck, Al, cl, hcell, hsk, hsl⟩ := hg.node a hp.1 hp.2.1
  refine calls [6] Tryz.func52 rfl rfl rfl rfl ?_
  refine c_seq ?_
  refine c_ops ?_
  refine l_val rfl rfl rfl (r_assign rfl) ?_
  refine l_nil ?_
  refine c_seq ?_
  refine c_ops ?_
  refine l_val rfl rfl rfl (r_move rfl) ?_
  refine l_val rfl rfl rfl (r_move rfl) ?_
  refine l_val rfl rfl rfl (r_move rfl) ?_
  refine l_new rfl rfl rfl (n_slice rfl Tryz.underlying26 Tryz.sizeOf3 Tryz.zeroValue3 rfl rfl rfl hL hE) ?_
  rintro _ w ⟨s13, rfl, hs13, hL, hE, hX⟩
  refine l_by rfl rfl rfl (r_call rfl rfl Tryz.func74 rfl rfl) (of_calls _ Ag cg g (hg.keep RNode.kept (Ext0.cells hE)) hok hn (hk0.keep (Ext0.cells hE)) false _ _ [a, b] (Sl.ofBlk1 (hL.get 0 rfl) rfl (Nat.le_refl _) (by simp) (fun i x hi => by
    match i, hi with
    | 0, hi => cases hi; exact ⟨_, rfl, rfl⟩
    | 1, hi => cases hi; exact ⟨_, rfl, rfl⟩)) (fun k hk => by
    simp only [List.mem_cons, List.not_mem_nil, or_false] at hk
    rcases hk with rfl | rfl
    · exact ⟨hp.1, hp.2.1⟩
    · exact ⟨hp.2.2.1, hp.2.2.2⟩)) ?_
  rintro _ w ⟨xb, mb, rfl, hxb, hmb, hS, hX⟩
  have hm0 := Nat.le_trans hE.size hmb
  replace hL := hL.addSol hX hS hxb hmb
  replace hE := hE.trans hX
  refine ⟨_, rfl, ?_⟩
  refine l_val rfl rfl rfl (r_move rfl) ?_
  refine l_val rfl rfl rfl (r_extract rfl rfl rfl) ?_
  refine l_val rfl rfl rfl (r_extract rfl rfl rfl) ?_
  refine l_val rfl rfl rfl (r_assign rfl) ?_
  refine l_val rfl rfl rfl (r_assign rfl) ?_
  refine l_nil ?_
  refine c_seq ?_
  refine c_seq ?_
  refine c_ops ?_
  refine l_val rfl rfl rfl (r_move rfl) ?_
  refine l_val rfl rfl rfl (r_not rfl rfl) ?_
  refine l_val rfl rfl rfl (r_move rfl) ?_
  refine l_val rfl rfl rfl (r_move rfl) ?_
  refine l_val rfl rfl rfl (r_move rfl) ?_
  refine l_val rfl rfl rfl (r_indexAddr_sl rfl Tryz.underlying22 Tryz.sizeOf46 rfl hg.is rfl hp.1 hp.2.1) ?_
  refine l_val rfl rfl rfl (r_fieldAddr (n := 0) rfl Tryz.underlying46 rfl Tryz.sizeOf3 rfl) ?_
  refine l_val rfl rfl rfl (r_load rfl Tryz.isAgg3 rfl (Ext0.cells hE _ _ (hcell 0 _ rfl))) ?_
  refine l_val rfl rfl rfl (r_eql rfl rfl rfl) ?_
  refine l_val rfl rfl rfl (r_pick rfl rfl) ?_
  refine l_nil ?_
  refine c_cond rfl (fun hb => ?_) (fun hb => ?_)
  · have hr26 := hb
    replace hb := of_decide_eq_true hb
    exact absurd (of_decide_eq_true hr26) ha8
  · have hr26 := hb
    replace hb := of_decide_eq_false hb
    refine c_skip ?_
    refine c_seq ?_
 
    refine c_ops ?_
    refine l_val rfl rfl rfl (r_move rfl) ?_
    refine l_val rfl rfl rfl (r_move rfl) ?_
    refine l_val rfl rfl rfl (r_move rfl) ?_
    refine l_val rfl rfl rfl (r_build rfl rfl (built_pair _ _)) ?_
    refine l_new rfl rfl rfl (n_slice (cells := #[.int .i64 a, .int .i64 b]) rfl Tryz.underlying122 Tryz.sizeOf87 Tryz.zeroValue87 rfl rfl (fill_pair _ _) hL hE) ?_
    rintro _ w ⟨s31, rfl, hs31, hL, hE, hX⟩
    refine l_by rfl rfl rfl (r_call rfl rfl Tryz.func75 rfl rfl) (solve_calls _ xb mb Ag cg g (hg.keep RNode.kept (Ext0.cells hE)) hok hn false [] Inv.nil _ _ [(a, b)] (Sl.pairs_at (l := [(a, b)]) ((Has.asRow (n := 1) (sz := 2) hL (Nat.zero_le _) rfl (by decide)).row 0 rfl)) (fun q hq => by rw [List.mem_singleton] at hq; subst hq; exact hp) (Has.right (L1 := [_, _]) hL)) ?_
    rintro _ w ⟨m', rfl, hsol, hkn, hX, hY⟩
    replace hL := Has.sol [_, _] hL hX hY
    replace hE := ext_own hE hX hm0
    refine ⟨_, rfl, ?_⟩
    refine l_nil ?_
    refine c_seq ?_
 
    refine c_ops ?_
    refine l_val rfl rfl rfl (r_move rfl) ?_
    refine l_val rfl rfl rfl (r_move rfl) ?_
    refine l_val rfl rfl rfl (r_move rfl) ?_
    have hpk : pickM g false m' a b = (pickX g false (mayX g false) a b, m') := by
      have h1 := hkn (a, b) (List.mem_singleton.2 rfl)
      cases hv : getM m' (a, b) with
      | none => exact absurd hv h1
      | some v =>
        have h2 := hsol.fits hok _ v hv
        rw [hmay] at h2
        have h3 := (hsol.inv.inn _ v hv).2
        have h4 : 0 < v := by simpa using h2.symm
        obtain rfl : v = 1 := by omega
        exact hsol.pick hok hv ha8
    refine l_by rfl rfl rfl (r_call rfl rfl Tryz.func76 rfl rfl) (pick_calls _ xb mb Ag cg g (hg.keep RNode.kept (Ext0.cells hE)) hok false m' a b hp.1 hp.2.1 ha8 (Has.right (L1 := [_, _]) hL)) ?_
    rintro _ w ⟨rfl, hX, hY⟩
    replace hE := ext_own hE hX hm0
    refine ⟨_, rfl, ?_⟩
    refine l_val rfl rfl rfl (r_assign rfl) ?_
    refine l_nil ?_
    refine c_ret ?_
    exact ⟨ret_int rfl (by rw [hpk]), hE⟩
end Go.Proofs.YtndophlnapjkhaaGreatDoor.Vc
namespace Go.Proofs.YtndophlnapjkhaaGreatDoor.Vc
open Go Go.RowKit
set_option linter.unusedVariables false
set_option linter.unusedSimpArgs false
abbrev factCells (f : Fact) (A : Option Addr) (c : Nat) : List Value := [.int .i64 f.a, .int .i64 f.b, .slice A f.why.length c]
abbrev FP : Type := List (Int × Int)
def chosenF (g : List GNode) (f : Fact) : GNode := gat g (iat (membersG g f.b) (iat f.why 0))
def onF (g : List GNode) (f : Fact) : List Int := if (gat g f.a).kind = 8 then f.why else f.why.drop 1
def placeB (n : Nat) (k : Int) : Bool := decide (0 ≤ k) && decide (k < n)
structure FactOk (g : List GNode) (f : Fact) : Prop where
  a : 0 ≤ f.a ∧ f.a < g.length
  b : 0 ≤ f.b ∧ f.b < g.length
  why : (gat g f.a).kind ≠ 8 → f.why ≠ []
  idx : (gat g f.a).kind ≠ 8 → ¬ ((gat g f.a).kind = 9 ∧ iat f.why 0 = -1) → 0 ≤ iat f.why 0 ∧ iat f.why 0 < (membersG g f.b).length
theorem built_fpair (a b : Int) : Tryz.prog.built 59 [(0, .int .i64 a), (1, .int .i64 b)] = some #[.int .i64 a, .int .i64 b] := by kernel_rfl
theorem info_fpair : (Tryz.prog.info? 59).map (fun i => (i.zero, i.size, i.bytes)) = some (some (.agg #[.int .i64 0, .int .i64 0]), 2, 16) := by kernel_rfl
theorem Sl.drop1 {w : World} {A : Option Addr} {n c : Nat} {l : List Int} (h : Sl w 1 RInt A n c l) (hn : 0 < n) : Sl w 1 RInt (if c = (1 : Int).toNat then A else A.map (·.add ((1 : Int).toNat * 1))) (n - (1 : Int).toNat) (c - (1 : Int).toNat) (l.drop 1) := by
  have hl := h.len
  have hc := h.cap
  have hm := h.max
  have hi := h.is hn
  refine ⟨by simp [hl], by simp; omega, by omega, fun _ => ?_, fun i x hx => ?_⟩
  · split
    · exact hi
    · rw [Option.isSome_map]; exact hi
  · rw [List.getElem?_drop] at hx
    obtain ⟨cs, h1, h2, h3⟩ := h.at_ (1 + i) x hx
    have hlt := (List.getElem?_eq_some_iff.1 hx).1
    have hne : ¬ c = (1 : Int).toNat := by simp; omega
    refine ⟨cs, h1, h2, fun j v hj => ?_⟩
    rw [if_neg hne]
    obtain ⟨a, rfl⟩ : ∃ a, A = some a := Option.isSome_iff_exists.1 hi
    have := h3 j v hj
    show w.cell? ((a.add 1).add (i * 1 + j)) = some v
    rw [adr_add]
    rw [show 1 + (i * 1 + j) = (1 + i) * 1 + j by omega]
    exact this
theorem why_pos {f : Fact} (h : f.why ≠ []) : 0 < f.why.length := List.length_pos_iff.2 h
theorem chosen_in {g : List GNode} {f : Fact} (hok : GraphOk g) (hi : 0 ≤ iat f.why 0 ∧ iat f.why 0 < (membersG g f.b).length) : 0 ≤ iat (membersG g f.b) (iat f.why 0) ∧ iat (membersG g f.b) (iat f.why 0) < g.length ∧ (chosenF g f).kind ≠ 8 := by
  refine hok.members (n := f.b) ?_
  have := iat_nat (l := membersG g f.b) (k := (iat f.why 0).toNat) (by omega)
  rw [Int.toNat_of_nonneg hi.1] at this
  exact List.mem_of_getElem? this
theorem place_calls (w0 : World) (xb : Nat) (Ag : Option Addr) (cg : Nat) (n : Nat) (hx0 : w0.cell? ⟨xb, 0, none⟩ = some (.slice Ag n cg)) (k : Int) :
    Calls Tryz.prog 27 [.pointer (some ⟨xb, 0, none⟩), .int .i64 k].toArray w0 fun en w' => en = .returned (.bool (placeB n k)) ∧ Ext0 w0 w' := by
  have hE : Ext0 w0 w0 := Ext.refl _ _
  refine calls [4] Tryz.func27 rfl rfl rfl rfl ?_
  refine c_seq ?_
  refine c_ops ?_
  refine l_val rfl rfl rfl (r_assign rfl) ?_
  refine l_nil ?_
  refine c_seq ?_
  refine c_ops ?_
  refine l_val rfl rfl rfl (r_move rfl) ?_
  refine l_val rfl rfl rfl (r_geq rfl rfl rfl) ?_
  refine l_val rfl rfl rfl (r_move rfl) ?_
  refine l_case 7 rfl (fun hb => ?_) (fun hb => ?_)
  · have hr7 := hb
    replace hb := of_decide_eq_true hb
    refine l_val rfl rfl rfl (r_move rfl) ?_
    refine l_val rfl rfl rfl (r_move rfl) ?_
    refine l_val rfl rfl rfl (r_nilCheck rfl rfl) ?_
    refine l_val rfl rfl rfl (r_fieldAddr (n := 0) rfl Tryz.underlying51 rfl Tryz.sizeOf22 rfl) ?_
    refine l_val rfl rfl rfl (r_load rfl Tryz.isAgg22 rfl (Ext0.cells hE _ _ hx0)) ?_
    refine l_val rfl rfl rfl (r_len rfl Tryz.underlying22 rfl) ?_
    refine l_val rfl rfl rfl (r_lss rfl rfl rfl) ?_
    refine l_val rfl rfl rfl (r_pick rfl rfl) ?_
    refine l_val rfl rfl rfl (r_assign rfl) ?_
    refine l_nil ?_
    refine c_ret ?_
    exact ⟨ret_bool rfl (by simp only [placeB, hr7, Bool.true_and, Bool.and_true, Bool.false_and, Bool.and_false, Bool.true_or, Bool.or_true, Bool.false_or, Bool.or_false, Bool.not_true, Bool.not_false, cond_true, cond_false]), hE⟩
  · have hr7 := hb
    replace hb := of_decide_eq_false hb
    refine l_not rfl rfl rfl ?_
    refine l_not rfl rfl rfl ?_
    refine l_not rfl rfl rfl ?_
    refine l_not rfl rfl rfl ?_
    refine l_not rfl rfl rfl ?_
    refine l_not rfl rfl rfl ?_
    refine l_not rfl rfl rfl ?_
    refine l_val rfl rfl rfl (r_pick rfl rfl) ?_
    refine l_val rfl rfl rfl (r_assign rfl) ?_
    refine l_nil ?_
    refine c_ret ?_
    exact ⟨ret_bool rfl (by simp only [placeB, hr7, Bool.true_and, Bool.and_true, Bool.false_and, Bool.and_false, Bool.true_or, Bool.or_true, Bool.false_or, Bool.or_false, Bool.not_true, Bool.not_false, cond_true, cond_false]), hE⟩
theorem on_calls (w0 : World) (xb : Nat) (Ag : Option Addr) (cg : Nat) (g : List GNode) (hg : Nodes w0 Ag cg g) (hok : GraphOk g) (hx0 : w0.cell? ⟨xb, 0, none⟩ = some (.slice Ag g.length cg)) (f : Fact) (Aw : Option Addr) (cw : Nat) (hw : Ints w0 Aw cw f.why) (hf : FactOk g f) :
    Calls Tryz.prog 44 [.pointer (some ⟨xb, 0, none⟩), .agg (factCells f Aw cw).toArray].toArray w0 fun en w' => ∃ A c, en = .returned (.slice A (onF g f).length c) ∧ (∀ W, Ints W Aw cw f.why → Ints W A c (onF g f)) ∧ Ext0 w0 w' := by
  have hE : Ext0 w0 w0 := Ext.refl _ _
  have hL : Has w0 [] := trivial
  have ha := hf.a
  obtain ⟨Ak, ck, Al, cl, hcell, hsk, hsl⟩ := hg.node f.a hf.a.1 hf.a.2
  refine calls [4] Tryz.func44 rfl rfl rfl rfl ?_
  refine c_seq ?_
  refine c_ops ?_
  refine l_new rfl rfl rfl (n_box rfl hL hE) ?_
  rintro _ w ⟨b3, rfl, hb3, hL, hE, hX⟩
  refine l_val rfl rfl rfl (r_assign rfl) ?_
  refine l_nil ?_
  refine c_seq ?_
  refine c_seq ?_
  refine c_draw mixed (hL) hE ?_
  replace hL := hL.drew
  replace hE := hE.drew
  have hK := hL
  refine h_t 0 rfl rfl (by kernel_rfl) (fun _ _ _ h => h) ⟨hK, hE⟩ rfl (fun W hW => r_move rfl) ?_
  refine h_t 1 rfl rfl (by kernel_rfl) (fun _ _ _ h => h) ⟨hK, hE⟩ rfl (fun W hW => r_nilCheck rfl rfl) ?_
  refine h_t 2 rfl rfl (by kernel_rfl) (fun _ _ _ h => h) ⟨hK, hE⟩ rfl (fun W hW => r_fieldAddr (n := 0) rfl Tryz.underlying51 rfl Tryz.sizeOf22 rfl) ?_
  refine h_t 3 rfl rfl (by kernel_rfl) (fun _ _ _ h => h) ⟨hK, hE⟩ rfl (fun W hW => r_load rfl Tryz.isAgg22 rfl (Ext0.cells hW.2 _ _ hx0)) ?_
  refine h_t 4 rfl rfl (by kernel_rfl) (fun _ _ _ h => h) ⟨hK, hE⟩ rfl (fun W hW => r_fieldAddr (n := 0) rfl Tryz.underlying43 rfl Tryz.sizeOf3 rfl) ?_
  refine h_t 5 rfl rfl (by kernel_rfl) (fun _ _ _ h => h) ⟨hK, hE⟩ rfl (fun W hW => r_load_blk rfl Tryz.isAgg3 rfl (hW.1.get 0 rfl) rfl) ?_
  refine h_t 6 rfl rfl (by kernel_rfl) (fun _ _ _ h => h) ⟨hK, hE⟩ rfl (fun W hW => r_indexAddr_sl rfl Tryz.underlying22 Tryz.sizeOf46 rfl hg.is rfl ha.1 ha.2) ?_
  refine h_t 7 rfl rfl (by kernel_rfl) (fun _ _ _ h => h) ⟨hK, hE⟩ rfl (fun W hW => r_fieldAddr (n := 0) rfl Tryz.underlying46 rfl Tryz.sizeOf3 rfl) ?_
  refine h_t 8 rfl rfl (by kernel_rfl) (fun _ _ _ h => h) ⟨hK, hE⟩ rfl (fun W hW => r_load rfl Tryz.isAgg3 rfl (Ext0.cells hW.2 _ _ (hcell 0 _ rfl))) ?_
  refine h_t 9 rfl rfl (by kernel_rfl) (fun _ _ _ h => h) ⟨hK, hE⟩ rfl (fun W hW => r_eql rfl rfl rfl) ?_
  refine h_done (by kernel_rfl) ?_
  refine c_cond rfl (fun hb => ?_) (fun hb => ?_)
  · have hr14 := hb
    replace hb := of_decide_eq_true hb
    have ho : onF g f = f.why := by unfold onF; rw [if_pos hb]
    refine c_seq ?_
 
    refine c_ops ?_
    refine l_val rfl rfl rfl (r_fieldAddr (n := 0) rfl Tryz.underlying43 rfl Tryz.sizeOf26 rfl) ?_
    refine l_val rfl rfl rfl (r_load_blk rfl Tryz.isAgg26 rfl (hL.get 0 rfl) rfl) ?_
    refine l_val rfl rfl rfl (r_assign rfl) ?_
    refine l_nil ?_
    refine c_ret ?_
    rw [ho]
    exact ⟨_, _, rfl, fun W h => h, hE⟩
  · have hr14 := hb
    replace hb := of_decide_eq_false hb
    have ho : onF g f = f.why.drop 1 := by unfold onF; rw [if_neg hb]
    have hpos := why_pos (hf.why hb)
    refine c_skip ?_
    refine c_seq ?_
 
    refine c_ops ?_
    refine l_val rfl rfl rfl (r_fieldAddr (n := 0) rfl Tryz.underlying43 rfl Tryz.sizeOf26 rfl) ?_
    refine l_val rfl rfl rfl (r_load_blk rfl Tryz.isAgg26 rfl (hL.get 0 rfl) rfl) ?_
    refine l_val rfl rfl rfl (r_slice_from rfl Tryz.underlying26 Tryz.sizeOf3 rfl rfl (by decide) (by omega)) ?_
    refine l_val rfl rfl rfl (r_assign rfl) ?_
    refine l_nil ?_
    refine c_ret ?_
    rw [ho]
    have hn : f.why.length - (1 : Int).toNat = (f.why.drop 1).length := by simp
    exact ⟨_, _, congrArg (fun n => Ending.returned (.slice _ n _)) hn, fun W h => by have hd := h.drop1 hpos; rw [hn] at hd; exact hd, hE⟩
theorem chosen_calls (w0 : World) (xb : Nat) (Ag : Option Addr) (cg : Nat) (g : List GNode) (hg : Nodes w0 Ag cg g) (hok : GraphOk g) (hx0 : w0.cell? ⟨xb, 0, none⟩ = some (.slice Ag g.length cg)) (f : Fact) (Aw : Option Addr) (cw : Nat) (hw : Ints w0 Aw cw f.why) (hf : FactOk g f) (hi : 0 ≤ iat f.why 0 ∧ iat f.why 0 < (membersG g f.b).length) (hpos : 0 < f.why.length)
    (Bk : Option Addr) (dk : Nat) (Bl : Option Addr) (dl : Nat) (hcell2 : ∀ j v, (nodeCells (chosenF g f) Bk dk Bl dl)[j]? = some v → w0.cell? (((adr Ag).add ((iat (membersG g f.b) (iat f.why 0)).toNat * 5)).add j) = some v) :
    Calls Tryz.prog 85 [.pointer (some ⟨xb, 0, none⟩), .agg (factCells f Aw cw).toArray].toArray w0 fun en w' => en = .returned (.agg (nodeCells (chosenF g f) Bk dk Bl dl).toArray) ∧ Ext0 w0 w' := by
  have hE : Ext0 w0 w0 := Ext.refl _ _
  have hL : Has w0 [] := trivial
  have hch := chosen_in hok hi
  refine calls_cell 4 46 Tryz.func85 rfl rfl rfl Tryz.isAgg46 Tryz.sizeOf46 ?_
  refine c_seq ?_
  refine c_ops ?_
  refine l_new rfl rfl rfl (n_box rfl hL hE) ?_
  rintro _ w ⟨b3, rfl, hb3, hL, hE, hX⟩
  refine l_new rfl rfl rfl (n_alloc rfl Tryz.zeroValue46 hL hE) ?_
  rintro _ w ⟨b4, rfl, hb4, hL, hE, hX⟩
  refine l_nil ?_
  refine c_seq ?_
  refine c_draw mixed (hL.sub (.cons _ (.cons_cons _ .slnil))) hE ?_
  replace hL := hL.drew
  replace hE := hE.drew
  have hK := hL.sub (.cons _ (.cons_cons _ .slnil))
  refine h_t 0 rfl rfl (by kernel_rfl) (fun _ _ _ h => h) ⟨hK, hE⟩ rfl (fun W hW => r_move rfl) ?_
  refine h_t 1 rfl rfl (by kernel_rfl) (fun _ _ _ h => h) ⟨hK, hE⟩ rfl (fun W hW => r_nilCheck rfl rfl) ?_
  refine h_t 2 rfl rfl (by kernel_rfl) (fun _ _ _ h => h) ⟨hK, hE⟩ rfl (fun W hW => r_fieldAddr (n := 0) rfl Tryz.underlying51 rfl Tryz.sizeOf22 rfl) ?_
  refine h_t 3 rfl rfl (by kernel_rfl) (fun _ _ _ h => h) ⟨hK, hE⟩ rfl (fun W hW => r_load rfl Tryz.isAgg22 rfl (Ext0.cells hW.2 _ _ hx0)) ?_
  refine h_t 4 rfl rfl (by kernel_rfl) (fun _ _ _ h => h) ⟨hK, hE⟩ rfl (fun W hW => r_move rfl) ?_
  refine h_t 5 rfl rfl (by kernel_rfl) (fun _ _ _ h => h) ⟨hK, hE⟩ rfl (fun W hW => r_nilCheck rfl rfl) ?_
  refine h_t 6 rfl rfl (by kernel_rfl) (fun _ _ _ h => h) ⟨hK, hE⟩ rfl (fun W hW => r_fieldAddr (n := 0) rfl Tryz.underlying51 rfl Tryz.sizeOf22 rfl) ?_
  refine h_t 7 rfl rfl (by kernel_rfl) (fun _ _ _ h => h) ⟨hK, hE⟩ rfl (fun W hW => r_load rfl Tryz.isAgg22 rfl (Ext0.cells hW.2 _ _ hx0)) ?_
  refine h_t 8 rfl rfl (by kernel_rfl) (fun _ _ _ h => h) ⟨hK, hE⟩ rfl (fun W hW => r_fieldAddr (n := 0) rfl Tryz.underlying43 rfl Tryz.sizeOf3 rfl) ?_
  refine h_t 9 rfl rfl (by kernel_rfl) (fun _ _ _ h => h) ⟨hK, hE⟩ rfl (fun W hW => r_load_blk rfl Tryz.isAgg3 rfl (hW.1.get 0 rfl) rfl) ?_
  refine h_t 11 rfl rfl (by kernel_rfl) (fun _ _ _ h => h) ⟨hK, hE⟩ rfl (fun W hW => r_fieldAddr (n := 0) rfl Tryz.underlying43 rfl Tryz.sizeOf26 rfl) ?_
  refine h_t 12 rfl rfl (by kernel_rfl) (fun _ _ _ h => h) ⟨hK, hE⟩ rfl (fun W hW => r_load_blk rfl Tryz.isAgg26 rfl (hW.1.get 0 rfl) rfl) ?_
  refine h_t 13 rfl rfl (by kernel_rfl) (fun _ _ _ h => h) ⟨hK, hE⟩ rfl (fun W hW => r_indexAddr_sl rfl Tryz.underlying26 Tryz.sizeOf3 rfl hw.is rfl (by decide) (by omega)) ?_
  refine h_t 14 rfl rfl (by kernel_rfl) (fun _ _ _ h => h) ⟨hK, hE⟩ rfl (fun W hW => r_load rfl Tryz.isAgg3 rfl ((hw.keep RInt.kept (Ext0.cells hW.2)).int 0 (by decide) (by omega))) ?_
  refine h_by 10 rfl rfl (by kernel_rfl) rfl (r_call rfl rfl Tryz.func43 rfl rfl) (Members_calls _ Ag cg g (hg.keep RNode.kept (Ext0.cells hE)) hok.fits f.b) ?_
  rintro _ w ⟨v, rfl, hrow, hX⟩
  replace hL := hL.addRow hX hrow
  replace hE := hE.step0 hX
  obtain ⟨A2, c2, rfl, hmem, _⟩ := Sl.ofInts hrow
  obtain ⟨bm, hL⟩ : ∃ bm, Has w (.row bm _ _ _ _ _ :: _) := ⟨_, hL⟩
  have hK := hL.sub (.cons _ (.cons _ (.cons_cons _ .slnil)))
  refine ⟨_, rfl, ⟨hK, hE⟩, ?_⟩
  refine h_t 15 rfl rfl (by kernel_rfl) (fun _ _ _ h => h) ⟨hK, hE⟩ rfl (fun W hW => r_indexAddr_sl rfl Tryz.underlying26 Tryz.sizeOf3 rfl hmem.is rfl hi.1 hi.2) ?_
  refine h_one 16 rfl rfl (by kernel_rfl) rfl (r_load rfl Tryz.isAgg3 rfl ((Sl.ints_at (hL.row 0 rfl)).int (iat f.why 0) hi.1 hi.2)) ⟨hK, hE⟩ ?_
  refine h_t 17 rfl rfl (by kernel_rfl) (fun _ _ _ h => h) ⟨hK, hE⟩ rfl (fun W hW => r_indexAddr_sl rfl Tryz.underlying22 Tryz.sizeOf46 rfl hg.is rfl hch.1 hch.2.1) ?_
  refine h_t 18 rfl rfl (by kernel_rfl) (fun _ _ _ h => h) ⟨hK, hE⟩ rfl (fun W hW => r_load_agg (vs := nodeCells (chosenF g f) Bk dk Bl dl) rfl Tryz.isAgg46 Tryz.sizeOf46 rfl (fun j v hj => Ext0.cells hW.2 _ _ (hcell2 j v hj))) ?_
  refine h_new_do 19 rfl rfl (by kernel_rfl) rfl (r_store 1 rfl Tryz.sizeOf46 rfl hL hE rfl rfl rfl rfl (fun h => absurd h (Nat.not_lt.2 hb4))) ?_
  rintro w ⟨hL, hE, hz, hk⟩
  have hK := hL.sub (.cons _ (.cons _ (.cons_cons _ .slnil)))
  refine ⟨⟨hK, hE⟩, ?_⟩
  refine h_done (by kernel_rfl) ?_
  refine c_ret ?_
  exact ⟨_, rfl, _, rfl, blk_raw (hL.get 1 rfl) rfl, rfl, hE⟩
end Go.Proofs.YtndophlnapjkhaaGreatDoor.Vc
namespace Go.Proofs.YtndophlnapjkhaaGreatDoor.Vc
open Go Go.RowKit
set_option linter.unusedVariables false
set_option linter.unusedSimpArgs false
def RuleRes (w0 : World) (r : Bool × FP × Bool) (en : Ending) (w' : World) : Prop := ∃ v, en = .returned (.tuple #[.bool r.1, v, .bool r.2.2]) ∧ w'.ownsRow w0.heap.size 59 2 v r.2.1.length (r.2.1.map cells2).flatten ∧ Ext0 w0 w'
theorem RuleRes.of {w0 w' : World} {r r' : Bool × FP × Bool} {en : Ending} (h : r = r') (k : RuleRes w0 r' en w') : RuleRes w0 r en w' := h ▸ k
theorem nil_row (w : World) (base e sz : Nat) : w.ownsRow base e sz (.slice none 0 0) ([] : FP).length (([] : FP).map cells2).flatten := ⟨by simp, .inl ⟨rfl, rfl⟩⟩
def unionF (g : List GNode) (f : Fact) : Bool × FP × Bool := if (gat g f.a).kind = 8 then (true, (gat g f.a).l.map (fun m => (m, f.b)), true) else (false, [], false)
def boundF (g : List GNode) (f : Fact) : Bool × FP × Bool := if (gat g f.a).kind = 9 ∧ iat f.why 0 = -1 then (true, [(iat (gat g f.a).l 0, f.b)], true) else (false, [], false)
def looseF (g : List GNode) (f : Fact) : Bool × FP × Bool := (decide ((gat g f.a).kind = 1 ∨ (chosenF g f).kind = 1), [], decide ((gat g f.a).kind = 1 ∨ (chosenF g f).kind = 1))
theorem fpairs_at {w : World} {base e n n' c : Nat} {A : Option Addr} {l : FP} (h : w.ownsRow base e 2 (.slice A n' c) n (l.map cells2).flatten) : Sl w 2 RPair A n' c l := Sl.pairs_at h
theorem union_calls (w0 : World) (xb : Nat) (Ag : Option Addr) (cg : Nat) (g : List GNode) (hg : Nodes w0 Ag cg g) (hok : GraphOk g) (hx0 : w0.cell? ⟨xb, 0, none⟩ = some (.slice Ag g.length cg)) (f : Fact) (Aw : Option Addr) (cw : Nat) (hw : Ints w0 Aw cw f.why) (hf : FactOk g f) :
    Calls Tryz.prog 94 [.pointer (some ⟨xb, 0, none⟩), .agg (factCells f Aw cw).toArray].toArray w0 (RuleRes w0 (unionF g f)) := by
  have hE : Ext0 w0 w0 := Ext.refl _ _
  have hL : Has w0 [] := trivial
  have ha := hf.a
  obtain ⟨Ak, ck, Al, cl, hcell, hsk, hsl⟩ := hg.node f.a hf.a.1 hf.a.2
  refine calls [4, 5, 6] Tryz.func94 rfl rfl rfl rfl ?_
  refine c_seq ?_
  refine c_ops ?_
  refine l_new rfl rfl rfl (n_box rfl hL hE) ?_
  rintro _ w ⟨b3, rfl, hb3, hL, hE, hX⟩
  refine l_val rfl rfl rfl (r_assign rfl) ?_
  refine l_val rfl rfl rfl (r_assign rfl) ?_
  refine l_val rfl rfl rfl (r_assign rfl) ?_
  refine l_nil ?_
  refine c_seq ?_
  refine c_seq ?_
  refine c_draw mixed (hL) hE ?_
  replace hL := hL.drew
  replace hE := hE.drew
  have hK := hL
  refine h_t 0 rfl rfl (by kernel_rfl) (fun _ _ _ h => h) ⟨hK, hE⟩ rfl (fun W hW => r_move rfl) ?_
  refine h_t 1 rfl rfl (by kernel_rfl) (fun _ _ _ h => h) ⟨hK, hE⟩ rfl (fun W hW => r_nilCheck rfl rfl) ?_
  refine h_t 2 rfl rfl (by kernel_rfl) (fun _ _ _ h => h) ⟨hK, hE⟩ rfl (fun W hW => r_fieldAddr (n := 0) rfl Tryz.underlying51 rfl Tryz.sizeOf22 rfl) ?_
  refine h_t 3 rfl rfl (by kernel_rfl) (fun _ _ _ h => h) ⟨hK, hE⟩ rfl (fun W hW => r_load rfl Tryz.isAgg22 rfl (Ext0.cells hW.2 _ _ hx0)) ?_
  refine h_t 4 rfl rfl (by kernel_rfl) (fun _ _ _ h => h) ⟨hK, hE⟩ rfl (fun W hW => r_fieldAddr (n := 0) rfl Tryz.underlying43 rfl Tryz.sizeOf3 rfl) ?_
  refine h_t 5 rfl rfl (by kernel_rfl) (fun _ _ _ h => h) ⟨hK, hE⟩ rfl (fun W hW => r_load_blk rfl Tryz.isAgg3 rfl (hW.1.get 0 rfl) rfl) ?_
  refine h_t 6 rfl rfl (by kernel_rfl) (fun _ _ _ h => h) ⟨hK, hE⟩ rfl (fun W hW => r_indexAddr_sl rfl Tryz.underlying22 Tryz.sizeOf46 rfl hg.is rfl ha.1 ha.2) ?_
  refine h_t 7 rfl rfl (by kernel_rfl) (fun _ _ _ h => h) ⟨hK, hE⟩ rfl (fun W hW => r_fieldAddr (n := 0) rfl Tryz.underlying46 rfl Tryz.sizeOf3 rfl) ?_
  refine h_t 8 rfl rfl (by kernel_rfl) (fun _ _ _ h => h) ⟨hK, hE⟩ rfl (fun W hW => r_load rfl Tryz.isAgg3 rfl (Ext0.cells hW.2 _ _ (hcell 0 _ rfl))) ?_
  refine h_t 9 rfl rfl (by kernel_rfl) (fun _ _ _ h => h) ⟨hK, hE⟩ rfl (fun W hW => r_neq rfl rfl rfl) ?_
  refine h_done (by kernel_rfl) ?_
  refine c_cond rfl (fun hb => ?_) (fun hb => ?_)
  · have hr18 := hb
    replace hb := of_decide_eq_false (by simpa using hb)
    have hu : unionF g f = (false, [], false) := by unfold unionF; rw [if_neg hb]
    refine c_seq ?_
 
    refine c_ops ?_
    refine l_val rfl rfl rfl (r_assign rfl) ?_
    refine l_val rfl rfl rfl (r_assign rfl) ?_
    refine l_val rfl rfl rfl (r_assign rfl) ?_
    refine l_nil ?_
    refine c_ret ?_
    rw [hu]
    exact ⟨_, rfl, nil_row _ _ _ _, hE⟩
  · have hr18 := hb
    replace hb := of_decide_eq_true (by simpa using hb)
    have hu : unionF g f = (true, (gat g f.a).l.map (fun m => (m, f.b)), true) := by unfold unionF; rw [if_pos hb]
    replace hL := hL.nilRow w0.heap.size 59 2
    have hbig := hok.fits.lists _ (gat_mem' ha.1 ha.2)
    refine c_skip ?_
    refine c_seq ?_
    refine c_seq ?_
 
    refine c_draw mixed (hL) hE ?_
    replace hL := hL.drew
    replace hE := hE.drew
    have hK := hL
    refine h_t 0 rfl rfl (by kernel_rfl) (fun _ _ _ h => h) ⟨hK, hE⟩ rfl (fun W hW => r_move rfl) ?_
    refine h_t 1 rfl rfl (by kernel_rfl) (fun _ _ _ h => h) ⟨hK, hE⟩ rfl (fun W hW => r_nilCheck rfl rfl) ?_
    refine h_t 2 rfl rfl (by kernel_rfl) (fun _ _ _ h => h) ⟨hK, hE⟩ rfl (fun W hW => r_fieldAddr (n := 0) rfl Tryz.underlying51 rfl Tryz.sizeOf22 rfl) ?_
    refine h_t 3 rfl rfl (by kernel_rfl) (fun _ _ _ h => h) ⟨hK, hE⟩ rfl (fun W hW => r_load rfl Tryz.isAgg22 rfl (Ext0.cells hW.2 _ _ hx0)) ?_
    refine h_t 4 rfl rfl (by kernel_rfl) (fun _ _ _ h => h) ⟨hK, hE⟩ rfl (fun W hW => r_fieldAddr (n := 0) rfl Tryz.underlying43 rfl Tryz.sizeOf3 rfl) ?_
    refine h_t 5 rfl rfl (by kernel_rfl) (fun _ _ _ h => h) ⟨hK, hE⟩ rfl (fun W hW => r_load_blk rfl Tryz.isAgg3 rfl (hW.1.get 1 rfl) rfl) ?_
    refine h_t 6 rfl rfl (by kernel_rfl) (fun _ _ _ h => h) ⟨hK, hE⟩ rfl (fun W hW => r_indexAddr_sl rfl Tryz.underlying22 Tryz.sizeOf46 rfl hg.is rfl ha.1 ha.2) ?_
    refine h_t 7 rfl rfl (by kernel_rfl) (fun _ _ _ h => h) ⟨hK, hE⟩ rfl (fun W hW => r_fieldAddr (n := 0) rfl Tryz.underlying46 rfl Tryz.sizeOf26 rfl) ?_
    refine h_t 8 rfl rfl (by kernel_rfl) (fun _ _ _ h => h) ⟨hK, hE⟩ rfl (fun W hW => r_load rfl Tryz.isAgg26 rfl (Ext0.cells hW.2 _ _ (hcell 4 _ rfl))) ?_
    refine h_t 9 rfl rfl (by kernel_rfl) (fun _ _ _ h => h) ⟨hK, hE⟩ rfl (fun W hW => r_len rfl Tryz.underlying26 rfl) ?_
    refine h_t 10 rfl rfl (by kernel_rfl) (fun _ _ _ h => h) ⟨hK, hE⟩ rfl (fun W hW => r_move rfl) ?_
    refine h_done (by kernel_rfl) ?_
    refine c_block ?_
 
    refine c_loop [5, 8, 29, 30, 31, 32, 33, 34, 35, 36, 37, 38, 39, 40] (fun m1 e w => ∃ (k : Nat) (A5 : Option Addr) (c5 : Nat), k ≤ (gat g f.a).l.length ∧ m1 = (gat g f.a).l.length - k ∧ e 29 = .int .i64 k ∧ e 5 = .slice A5 k c5 ∧ Has w [.row w0.heap.size 59 2 (.slice A5 k c5) k ((((gat g f.a).l.take k).map (fun m => (m, f.b))).map cells2).flatten, .blk b3 (.cells (factCells f Aw cw).toArray 43 (0, 0))] ∧ Ext0 w0 w) (gat g f.a).l.length ?_ ?_
    · exact ⟨0, none, 0, Nat.zero_le _, rfl, rfl, rfl, hL, hE⟩
    intro m1 e w hI
    obtain ⟨k, A5, c5, hk, hm, h29, h5, hL, hE⟩ := hI
    refine c_know h29 ?_
    refine c_know (t := 5) (by exact h5) ?_
    refine c_seq ?_
 
    refine c_ops ?_
    refine l_val rfl rfl rfl (r_lss rfl rfl rfl) ?_
    refine l_nil ?_
    refine c_seq ?_
    refine c_cond rfl (fun hb => ?_) (fun hb => ?_)
    · have hr30 := hb
      replace hb := of_decide_eq_true hb
      have hkn : k < (gat g f.a).l.length := by omega
      have htk : ((gat g f.a).l.take (k + 1)).map (fun m => (m, f.b)) = ((gat g f.a).l.take k).map (fun m => (m, f.b)) ++ [(iat (gat g f.a).l k, f.b)] := by
        rw [List.take_add_one, iat_nat hkn]
        simp
      refine c_skip ?_
      refine c_seq ?_
      refine c_block ?_
      refine c_seq ?_
   
      refine c_ops ?_
      refine l_val rfl rfl rfl (r_indexAddr_sl rfl Tryz.underlying26 Tryz.sizeOf3 rfl hsl.is rfl (by omega) (by omega)) ?_
      refine l_val rfl rfl rfl (r_load rfl Tryz.isAgg3 rfl ((hsl.keep RInt.kept (Ext0.cells hE)).int k (by omega) (by omega))) ?_
      refine l_val rfl rfl rfl (r_assign rfl) ?_
      refine l_nil ?_
   
      refine c_ops ?_
      refine l_val rfl rfl rfl (r_move rfl) ?_
      refine l_val rfl rfl rfl (r_move rfl) ?_
      refine l_val rfl rfl rfl (r_fieldAddr (n := 0) rfl Tryz.underlying43 rfl Tryz.sizeOf3 rfl) ?_
      refine l_val rfl rfl rfl (r_load_blk rfl Tryz.isAgg3 rfl (hL.get 1 rfl) rfl) ?_
      refine l_val rfl rfl rfl (r_build rfl rfl (built_fpair _ _)) ?_
      refine l_new rfl rfl rfl (n_slice (cells := #[.int .i64 (iat (gat g f.a).l k), .int .i64 f.b]) rfl Tryz.underlying90 Tryz.sizeOf59 Tryz.zeroValue59 rfl rfl (fill_pair _ _) hL hE) ?_
      rintro _ w ⟨s38, rfl, hs38, hL, hE, hX⟩
      refine l_new rfl rfl rfl (r_append (ys := cells2 (iat (gat g f.a).l k, f.b)) 1 rfl Tryz.underlying90 info_fpair rfl (by decide) rfl rfl hL hE rfl rfl (blk_raw (cs := #[.int .i64 (iat (gat g f.a).l k), .int .i64 f.b]) (hL.get 0 rfl) rfl) (fun u hu => by simp [cells2] at hu; rcases hu with rfl | rfl <;> rfl) (by omega) (by omega) (Nat.le_refl _) hE.size) ?_
      rintro _ w ⟨hL, hE, hk⟩
      obtain ⟨A8, c8, rfl⟩ := ownsRow_slice (hL.row 1 rfl)
      replace hL : Has w ([.blk s38 (.cells #[.int .i64 (iat (gat g f.a).l k), .int .i64 f.b] 59 (0, 0)), .row w0.heap.size 59 2 (.slice A8 (k + 1) c8) (k + 1) (((((gat g f.a).l.take (k + 1)).map (fun m => (m, f.b)))).map cells2).flatten, .blk b3 (.cells (factCells f Aw cw).toArray 43 (0, 0))]) := by rw [htk, ← pairs_snoc]; exact hL
      refine l_val rfl rfl rfl (r_assign rfl) ?_
      refine l_nil ?_
   
      refine c_ops ?_
      refine l_val rfl rfl rfl (r_add rfl rfl rfl) ?_
      refine l_val rfl rfl rfl (r_move rfl) ?_
      refine l_nil ?_
      refine ⟨by repeat (first | exact Agree.over _ _ _ | exact Agree.refl _ _ | (refine Agree.puto ?_ _ _ rfl) | (refine Agree.put ?_ _ _ rfl) | (refine Agree.sub ?_ rfl)), ?_⟩
      exact ⟨(gat g f.a).l.length - (k + 1), by omega, k + 1, A8, c8, by omega, rfl, by show Value.int .i64 (IntKind.i64.wrap ((k : Int) + 1)) = _; rw [wrap_succ hkn hsl.max], rfl, hL.tail, hE⟩
    · have hr30 := hb
      replace hb := of_decide_eq_false hb
      obtain rfl : k = (gat g f.a).l.length := by omega
      rw [List.take_length] at hL
      refine c_exit ?_
      refine c_seq ?_
   
      refine c_ops ?_
      refine l_val rfl rfl rfl (r_move rfl) ?_
      refine l_val rfl rfl rfl (r_assign rfl) ?_
      refine l_val rfl rfl rfl (r_assign rfl) ?_
      refine l_val rfl rfl rfl (r_assign rfl) ?_
      refine l_nil ?_
      refine c_ret ?_
      rw [hu]
      exact ⟨_, rfl, by have := hL.row 0 rfl; rw [List.length_map]; exact this, hE⟩
theorem bound_calls (w0 : World) (xb : Nat) (Ag : Option Addr) (cg : Nat) (g : List GNode) (hg : Nodes w0 Ag cg g) (hok : GraphOk g) (hx0 : w0.cell? ⟨xb, 0, none⟩ = some (.slice Ag g.length cg)) (f : Fact) (Aw : Option Addr) (cw : Nat) (hw : Ints w0 Aw cw f.why) (hf : FactOk g f) (h8 : (gat g f.a).kind ≠ 8) :
    Calls Tryz.prog 95 [.pointer (some ⟨xb, 0, none⟩), .agg (factCells f Aw cw).toArray].toArray w0 (RuleRes w0 (boundF g f)) := by
  have hE : Ext0 w0 w0 := Ext.refl _ _
  have hL : Has w0 [] := trivial
  have ha := hf.a
  obtain ⟨Ak, ck, Al, cl, hcell, hsk, hsl⟩ := hg.node f.a hf.a.1 hf.a.2
  have hpos := why_pos (hf.why h8)
  refine calls [4, 5, 6] Tryz.func95 rfl rfl rfl rfl ?_
  refine c_seq ?_
  refine c_ops ?_
  refine l_new rfl rfl rfl (n_box rfl hL hE) ?_
  rintro _ w ⟨b3, rfl, hb3, hL, hE, hX⟩
  refine l_val rfl rfl rfl (r_assign rfl) ?_
  refine l_val rfl rfl rfl (r_assign rfl) ?_
  refine l_val rfl rfl rfl (r_assign rfl) ?_
  refine l_nil ?_
  refine c_seq ?_
  refine c_seq ?_
  refine c_draw mixed (hL) hE ?_
  replace hL := hL.drew
  replace hE := hE.drew
  have hK := hL
  refine h_t 0 rfl rfl (by kernel_rfl) (fun _ _ _ h => h) ⟨hK, hE⟩ rfl (fun W hW => r_move rfl) ?_
  refine h_t 1 rfl rfl (by kernel_rfl) (fun _ _ _ h => h) ⟨hK, hE⟩ rfl (fun W hW => r_nilCheck rfl rfl) ?_
  refine h_t 2 rfl rfl (by kernel_rfl) (fun _ _ _ h => h) ⟨hK, hE⟩ rfl (fun W hW => r_fieldAddr (n := 0) rfl Tryz.underlying51 rfl Tryz.sizeOf22 rfl) ?_
  refine h_t 3 rfl rfl (by kernel_rfl) (fun _ _ _ h => h) ⟨hK, hE⟩ rfl (fun W hW => r_load rfl Tryz.isAgg22 rfl (Ext0.cells hW.2 _ _ hx0)) ?_
  refine h_t 4 rfl rfl (by kernel_rfl) (fun _ _ _ h => h) ⟨hK, hE⟩ rfl (fun W hW => r_fieldAddr (n := 0) rfl Tryz.underlying43 rfl Tryz.sizeOf3 rfl) ?_
  refine h_t 5 rfl rfl (by kernel_rfl) (fun _ _ _ h => h) ⟨hK, hE⟩ rfl (fun W hW => r_load_blk rfl Tryz.isAgg3 rfl (hW.1.get 0 rfl) rfl) ?_
  refine h_t 6 rfl rfl (by kernel_rfl) (fun _ _ _ h => h) ⟨hK, hE⟩ rfl (fun W hW => r_indexAddr_sl rfl Tryz.underlying22 Tryz.sizeOf46 rfl hg.is rfl ha.1 ha.2) ?_
  refine h_t 7 rfl rfl (by kernel_rfl) (fun _ _ _ h => h) ⟨hK, hE⟩ rfl (fun W hW => r_fieldAddr (n := 0) rfl Tryz.underlying46 rfl Tryz.sizeOf3 rfl) ?_
  refine h_t 8 rfl rfl (by kernel_rfl) (fun _ _ _ h => h) ⟨hK, hE⟩ rfl (fun W hW => r_load rfl Tryz.isAgg3 rfl (Ext0.cells hW.2 _ _ (hcell 0 _ rfl))) ?_
  refine h_t 9 rfl rfl (by kernel_rfl) (fun _ _ _ h => h) ⟨hK, hE⟩ rfl (fun W hW => r_neq rfl rfl rfl) ?_
  refine h_t 10 rfl rfl (by kernel_rfl) (fun _ _ _ h => h) ⟨hK, hE⟩ rfl (fun W hW => r_move rfl) ?_
  refine h_case 17 rfl (fun hb => ?_) (fun hb => ?_)
  · have hr17 := hb
    replace hb := of_decide_eq_false (by simpa using hb)
    have hu : boundF g f = (false, [], false) := by unfold boundF; rw [if_neg (fun h => hb h.1)]
    refine h_n 11 rfl rfl (by kernel_rfl) (fun _ _ _ h => h) ⟨hK, hE⟩ rfl ?_
    refine h_n 12 rfl rfl (by kernel_rfl) (fun _ _ _ h => h) ⟨hK, hE⟩ rfl ?_
    refine h_n 13 rfl rfl (by kernel_rfl) (fun _ _ _ h => h) ⟨hK, hE⟩ rfl ?_
    refine h_n 14 rfl rfl (by kernel_rfl) (fun _ _ _ h => h) ⟨hK, hE⟩ rfl ?_
    refine h_n 15 rfl rfl (by kernel_rfl) (fun _ _ _ h => h) ⟨hK, hE⟩ rfl ?_
    refine h_t 16 rfl rfl (by kernel_rfl) (fun _ _ _ h => h) ⟨hK, hE⟩ rfl (fun W hW => r_pick rfl rfl) ?_
    refine h_done (by kernel_rfl) ?_
    refine c_yes rfl ?_
    refine c_seq ?_
 
    refine c_ops ?_
    refine l_val rfl rfl rfl (r_assign rfl) ?_
    refine l_val rfl rfl rfl (r_assign rfl) ?_
    refine l_val rfl rfl rfl (r_assign rfl) ?_
    refine l_nil ?_
    refine c_ret ?_
    rw [hu]
    exact ⟨_, rfl, nil_row _ _ _ _, hE⟩
  · have hr17 := hb
    replace hb := of_decide_eq_true (by simpa using hb)
    have h9 := hb
    refine h_t 11 rfl rfl (by kernel_rfl) (fun _ _ _ h => h) ⟨hK, hE⟩ rfl (fun W hW => r_fieldAddr (n := 0) rfl Tryz.underlying43 rfl Tryz.sizeOf26 rfl) ?_
    refine h_t 12 rfl rfl (by kernel_rfl) (fun _ _ _ h => h) ⟨hK, hE⟩ rfl (fun W hW => r_load_blk rfl Tryz.isAgg26 rfl (hW.1.get 0 rfl) rfl) ?_
    refine h_t 13 rfl rfl (by kernel_rfl) (fun _ _ _ h => h) ⟨hK, hE⟩ rfl (fun W hW => r_indexAddr_sl rfl Tryz.underlying26 Tryz.sizeOf3 rfl hw.is rfl (by decide) (by omega)) ?_
    refine h_t 14 rfl rfl (by kernel_rfl) (fun _ _ _ h => h) ⟨hK, hE⟩ rfl (fun W hW => r_load rfl Tryz.isAgg3 rfl ((hw.keep RInt.kept (Ext0.cells hW.2)).int 0 (by decide) (by omega))) ?_
    refine h_t 15 rfl rfl (by kernel_rfl) (fun _ _ _ h => h) ⟨hK, hE⟩ rfl (fun W hW => r_neq rfl rfl rfl) ?_
    refine h_t 16 rfl rfl (by kernel_rfl) (fun _ _ _ h => h) ⟨hK, hE⟩ rfl (fun W hW => r_pick rfl rfl) ?_
    refine h_done (by kernel_rfl) ?_
    refine c_cond rfl (fun hb => ?_) (fun hb => ?_)
    · have hr23 := hb
      replace hb := of_decide_eq_false (by simpa using hb)
      have hw1 : ¬ iat f.why 0 = -1 := by have h := hr23; rw [Bool.not_eq_true'] at h; exact of_decide_eq_false h
      have hu : boundF g f = (false, [], false) := by unfold boundF; rw [if_neg (fun h => hw1 h.2)]
      refine c_seq ?_
   
      refine c_ops ?_
      refine l_val rfl rfl rfl (r_assign rfl) ?_
      refine l_val rfl rfl rfl (r_assign rfl) ?_
      refine l_val rfl rfl rfl (r_assign rfl) ?_
      refine l_nil ?_
      refine c_ret ?_
      rw [hu]
      exact ⟨_, rfl, nil_row _ _ _ _, hE⟩
    · have hr23 := hb
      replace hb := of_decide_eq_true (by simpa using hb)
      have hw1 : iat f.why 0 = -1 := by have h := hr23; rw [Bool.not_eq_false'] at h; exact of_decide_eq_true h
      have hu : boundF g f = (true, [(iat (gat g f.a).l 0, f.b)], true) := by unfold boundF; rw [if_pos ⟨h9, hw1⟩]
      have hl1 : (gat g f.a).l.length = 1 := by rcases (hok.is (gat_mem' ha.1 ha.2)).plain h8 with h | h | h | h | h | ⟨h, h1⟩ | ⟨h, h1⟩ <;> first | exact h1 | omega
      refine c_skip ?_
      refine c_seq ?_
   
      refine c_draw mixed (hL) hE ?_
      replace hL := hL.drew
      replace hE := hE.drew
      have hK := hL
      refine h_t 0 rfl rfl (by kernel_rfl) (fun _ _ _ h => h) ⟨hK, hE⟩ rfl (fun W hW => r_move rfl) ?_
      refine h_t 1 rfl rfl (by kernel_rfl) (fun _ _ _ h => h) ⟨hK, hE⟩ rfl (fun W hW => r_nilCheck rfl rfl) ?_
      refine h_t 2 rfl rfl (by kernel_rfl) (fun _ _ _ h => h) ⟨hK, hE⟩ rfl (fun W hW => r_fieldAddr (n := 0) rfl Tryz.underlying51 rfl Tryz.sizeOf22 rfl) ?_
      refine h_t 3 rfl rfl (by kernel_rfl) (fun _ _ _ h => h) ⟨hK, hE⟩ rfl (fun W hW => r_load rfl Tryz.isAgg22 rfl (Ext0.cells hW.2 _ _ hx0)) ?_
      refine h_t 4 rfl rfl (by kernel_rfl) (fun _ _ _ h => h) ⟨hK, hE⟩ rfl (fun W hW => r_fieldAddr (n := 0) rfl Tryz.underlying43 rfl Tryz.sizeOf3 rfl) ?_
      refine h_t 5 rfl rfl (by kernel_rfl) (fun _ _ _ h => h) ⟨hK, hE⟩ rfl (fun W hW => r_load_blk rfl Tryz.isAgg3 rfl (hW.1.get 0 rfl) rfl) ?_
      refine h_t 6 rfl rfl (by kernel_rfl) (fun _ _ _ h => h) ⟨hK, hE⟩ rfl (fun W hW => r_indexAddr_sl rfl Tryz.underlying22 Tryz.sizeOf46 rfl hg.is rfl ha.1 ha.2) ?_
      refine h_t 7 rfl rfl (by kernel_rfl) (fun _ _ _ h => h) ⟨hK, hE⟩ rfl (fun W hW => r_fieldAddr (n := 0) rfl Tryz.underlying46 rfl Tryz.sizeOf26 rfl) ?_
      refine h_t 8 rfl rfl (by kernel_rfl) (fun _ _ _ h => h) ⟨hK, hE⟩ rfl (fun W hW => r_load rfl Tryz.isAgg26 rfl (Ext0.cells hW.2 _ _ (hcell 4 _ rfl))) ?_
      refine h_t 9 rfl rfl (by kernel_rfl) (fun _ _ _ h => h) ⟨hK, hE⟩ rfl (fun W hW => r_indexAddr_sl rfl Tryz.underlying26 Tryz.sizeOf3 rfl hsl.is rfl (by decide) (by omega)) ?_
      refine h_t 10 rfl rfl (by kernel_rfl) (fun _ _ _ h => h) ⟨hK, hE⟩ rfl (fun W hW => r_load rfl Tryz.isAgg3 rfl ((hsl.keep RInt.kept (Ext0.cells hW.2)).int 0 (by decide) (by omega))) ?_
      refine h_t 11 rfl rfl (by kernel_rfl) (fun _ _ _ h => h) ⟨hK, hE⟩ rfl (fun W hW => r_fieldAddr (n := 0) rfl Tryz.underlying43 rfl Tryz.sizeOf3 rfl) ?_
      refine h_t 12 rfl rfl (by kernel_rfl) (fun _ _ _ h => h) ⟨hK, hE⟩ rfl (fun W hW => r_load_blk rfl Tryz.isAgg3 rfl (hW.1.get 0 rfl) rfl) ?_
      refine h_t 13 rfl rfl (by kernel_rfl) (fun _ _ _ h => h) ⟨hK, hE⟩ rfl (fun W hW => r_build rfl rfl (built_fpair _ _)) ?_
      refine h_t 15 rfl rfl (by kernel_rfl) (fun _ _ _ h => h) ⟨hK, hE⟩ rfl (fun W hW => r_assign rfl) ?_
      refine h_new 14 rfl rfl (by kernel_rfl) rfl (n_slice (cells := #[.int .i64 (iat (gat g f.a).l 0), .int .i64 f.b]) rfl Tryz.underlying90 Tryz.sizeOf59 Tryz.zeroValue59 rfl rfl (fill_pair _ _) hL hE) ?_
      rintro _ w ⟨s38, rfl, hs38, hL, hE, hX⟩
      have hK := hL.sub (.cons _ (.cons_cons _ .slnil))
      refine ⟨⟨hK, hE⟩, ?_⟩
      refine h_t 16 rfl rfl (by kernel_rfl) (fun _ _ _ h => h) ⟨hK, hE⟩ rfl (fun W hW => r_assign rfl) ?_
      refine h_t 17 rfl rfl (by kernel_rfl) (fun _ _ _ h => h) ⟨hK, hE⟩ rfl (fun W hW => r_assign rfl) ?_
      refine h_done (by kernel_rfl) ?_
      refine c_ret ?_
      rw [hu]
      exact ⟨_, rfl, (Has.asRow (n := 1) (sz := 2) hL hs38 rfl (by decide)).row 0 rfl, hE⟩
theorem loose_calls (w0 : World) (xb : Nat) (Ag : Option Addr) (cg : Nat) (g : List GNode) (hg : Nodes w0 Ag cg g) (hok : GraphOk g) (hx0 : w0.cell? ⟨xb, 0, none⟩ = some (.slice Ag g.length cg)) (f : Fact) (Aw : Option Addr) (cw : Nat) (hw : Ints w0 Aw cw f.why) (hf : FactOk g f) (hi : 0 ≤ iat f.why 0 ∧ iat f.why 0 < (membersG g f.b).length) (hpos : 0 < f.why.length) :
    Calls Tryz.prog 96 [.pointer (some ⟨xb, 0, none⟩), .agg (factCells f Aw cw).toArray].toArray w0 (RuleRes w0 (looseF g f)) := by
  have hE : Ext0 w0 w0 := Ext.refl _ _
  have hL : Has w0 [] := trivial
  have ha := hf.a
  obtain ⟨Ak, ck, Al, cl, hcell, hsk, hsl⟩ := hg.node f.a hf.a.1 hf.a.2
  have hch := chosen_in hok hi
  obtain ⟨Bk, dk, Bl, dl, hcell2, htk, htl⟩ := hg.node _ hch.1 hch.2.1
  refine calls [4, 5, 6] Tryz.func96 rfl rfl rfl rfl ?_
  refine c_seq ?_
  refine c_ops ?_
  refine l_new rfl rfl rfl (n_box rfl hL hE) ?_
  rintro _ w ⟨b3, rfl, hb3, hL, hE, hX⟩
  refine l_val rfl rfl rfl (r_assign rfl) ?_
  refine l_val rfl rfl rfl (r_assign rfl) ?_
  refine l_val rfl rfl rfl (r_assign rfl) ?_
  refine l_nil ?_
  refine c_seq ?_
  refine c_draw mixed (hL) hE ?_
  replace hL := hL.drew
  replace hE := hE.drew
  have hK := hL
  refine h_t 0 rfl rfl (by kernel_rfl) (fun _ _ _ h => h) ⟨hK, hE⟩ rfl (fun W hW => r_move rfl) ?_
  refine h_t 1 rfl rfl (by kernel_rfl) (fun _ _ _ h => h) ⟨hK, hE⟩ rfl (fun W hW => r_nilCheck rfl rfl) ?_
  refine h_t 2 rfl rfl (by kernel_rfl) (fun _ _ _ h => h) ⟨hK, hE⟩ rfl (fun W hW => r_fieldAddr (n := 0) rfl Tryz.underlying51 rfl Tryz.sizeOf22 rfl) ?_
  refine h_t 3 rfl rfl (by kernel_rfl) (fun _ _ _ h => h) ⟨hK, hE⟩ rfl (fun W hW => r_load rfl Tryz.isAgg22 rfl (Ext0.cells hW.2 _ _ hx0)) ?_
  refine h_t 4 rfl rfl (by kernel_rfl) (fun _ _ _ h => h) ⟨hK, hE⟩ rfl (fun W hW => r_fieldAddr (n := 0) rfl Tryz.underlying43 rfl Tryz.sizeOf3 rfl) ?_
  refine h_t 5 rfl rfl (by kernel_rfl) (fun _ _ _ h => h) ⟨hK, hE⟩ rfl (fun W hW => r_load_blk rfl Tryz.isAgg3 rfl (hW.1.get 0 rfl) rfl) ?_
  refine h_t 6 rfl rfl (by kernel_rfl) (fun _ _ _ h => h) ⟨hK, hE⟩ rfl (fun W hW => r_indexAddr_sl rfl Tryz.underlying22 Tryz.sizeOf46 rfl hg.is rfl ha.1 ha.2) ?_
  refine h_t 7 rfl rfl (by kernel_rfl) (fun _ _ _ h => h) ⟨hK, hE⟩ rfl (fun W hW => r_fieldAddr (n := 0) rfl Tryz.underlying46 rfl Tryz.sizeOf3 rfl) ?_
  refine h_t 8 rfl rfl (by kernel_rfl) (fun _ _ _ h => h) ⟨hK, hE⟩ rfl (fun W hW => r_load rfl Tryz.isAgg3 rfl (Ext0.cells hW.2 _ _ (hcell 0 _ rfl))) ?_
  refine h_t 9 rfl rfl (by kernel_rfl) (fun _ _ _ h => h) ⟨hK, hE⟩ rfl (fun W hW => r_eql rfl rfl rfl) ?_
  refine h_t 10 rfl rfl (by kernel_rfl) (fun _ _ _ h => h) ⟨hK, hE⟩ rfl (fun W hW => r_move rfl) ?_
  refine h_case 18 rfl (fun hb => ?_) (fun hb => ?_)
  · have hr18 := hb
    replace hb := of_decide_eq_true hb
    have hd : looseF g f = (true, [], true) := by unfold looseF; simp [hb]
    refine h_n 11 rfl rfl (by kernel_rfl) (fun _ _ _ h => h) ⟨hK, hE⟩ rfl ?_
    refine h_n 12 rfl rfl (by kernel_rfl) (fun _ _ _ h => h) ⟨hK, hE⟩ rfl ?_
    refine h_n 13 rfl rfl (by kernel_rfl) (fun _ _ _ h => h) ⟨hK, hE⟩ rfl ?_
    refine h_n 14 rfl rfl (by kernel_rfl) (fun _ _ _ h => h) ⟨hK, hE⟩ rfl ?_
    refine h_n 15 rfl rfl (by kernel_rfl) (fun _ _ _ h => h) ⟨hK, hE⟩ rfl ?_
    refine h_t 16 rfl rfl (by kernel_rfl) (fun _ _ _ h => h) ⟨hK, hE⟩ rfl (fun W hW => r_pick rfl rfl) ?_
    refine h_t 17 rfl rfl (by kernel_rfl) (fun _ _ _ h => h) ⟨hK, hE⟩ rfl (fun W hW => r_assign rfl) ?_
    refine h_done (by kernel_rfl) ?_
    refine c_seq ?_
 
    refine c_ops ?_
    refine l_val rfl rfl rfl (r_move rfl) ?_
    refine l_val rfl rfl rfl (r_move rfl) ?_
    refine l_val rfl rfl rfl (r_assign rfl) ?_
    refine l_val rfl rfl rfl (r_assign rfl) ?_
    refine l_val rfl rfl rfl (r_assign rfl) ?_
    refine l_nil ?_
    refine c_ret ?_
    rw [hd]
    exact ⟨_, rfl, nil_row _ _ _ _, hE⟩
  · have hr18 := hb
    replace hb := of_decide_eq_false hb
    have hd : looseF g f = (decide ((chosenF g f).kind = 1), [], decide ((chosenF g f).kind = 1)) := by unfold looseF; simp [hb]
    refine h_t 11 rfl rfl (by kernel_rfl) (fun _ _ _ h => h) ⟨hK, hE⟩ rfl (fun W hW => r_move rfl) ?_
    refine h_t 12 rfl rfl (by kernel_rfl) (fun _ _ _ h => h) ⟨hK, hE⟩ rfl (fun W hW => r_load_blk_agg rfl Tryz.isAgg43 Tryz.sizeOf43 rfl (hW.1.get 0 rfl) rfl) ?_
    refine h_by 13 rfl rfl (by kernel_rfl) rfl (r_call rfl rfl Tryz.func85 rfl rfl) (chosen_calls _ xb Ag cg g (hg.keep RNode.kept (Ext0.cells hE)) hok (Ext0.cells hE _ _ hx0) f Aw cw (hw.keep RInt.kept (Ext0.cells hE)) hf hi hpos Bk dk Bl dl (fun j v hj => Ext0.cells hE _ _ (hcell2 j v hj))) ?_
    rintro _ w ⟨rfl, hX⟩
    replace hL := hL.ext0 hX
    replace hE := hE.trans hX
    have hK := hL
    refine ⟨_, rfl, ⟨hK, hE⟩, ?_⟩
    refine h_t 14 rfl rfl (by kernel_rfl) (fun _ _ _ h => h) ⟨hK, hE⟩ rfl (fun W hW => r_field rfl Tryz.underlying46 rfl Tryz.isAgg3 rfl rfl) ?_
    refine h_t 15 rfl rfl (by kernel_rfl) (fun _ _ _ h => h) ⟨hK, hE⟩ rfl (fun W hW => r_eql rfl rfl rfl) ?_
    refine h_t 16 rfl rfl (by kernel_rfl) (fun _ _ _ h => h) ⟨hK, hE⟩ rfl (fun W hW => r_pick rfl rfl) ?_
    refine h_t 17 rfl rfl (by kernel_rfl) (fun _ _ _ h => h) ⟨hK, hE⟩ rfl (fun W hW => r_assign rfl) ?_
    refine h_done (by kernel_rfl) ?_
    refine c_seq ?_
 
    refine c_ops ?_
    refine l_val rfl rfl rfl (r_move rfl) ?_
    refine l_val rfl rfl rfl (r_move rfl) ?_
    refine l_val rfl rfl rfl (r_assign rfl) ?_
    refine l_val rfl rfl rfl (r_assign rfl) ?_
    refine l_val rfl rfl rfl (r_assign rfl) ?_
    refine l_nil ?_
    refine c_ret ?_
    rw [hd]
    exact ⟨_, rfl, nil_row _ _ _ _, hE⟩
end Go.Proofs.YtndophlnapjkhaaGreatDoor.Vc
namespace Go.Proofs.YtndophlnapjkhaaGreatDoor.Vc
open Go Go.RowKit
set_option linter.unusedVariables false
theorem bLess_is : ∀ (a b : List UInt8), Op.bytesLess a b = decide (a < b)
  | [], [] => by simp [Op.bytesLess]
  | _ :: _, [] => by simp [Op.bytesLess]
  | [], _ :: _ => by simp [Op.bytesLess]
  | a :: r, b :: q => by
    simp only [Op.bytesLess, bLess_is r q, List.cons_lt_cons_iff]
    by_cases e1 : a < b <;> by_cases e2 : a = b <;> by_cases e3 : r < q <;> simp [e1, e2, e3]
theorem ltB_eq (a b : ByteArray) : ltB a b = decide (a.toList < b.toList) := bLess_is _ _
theorem ltB_irrefl (a : ByteArray) : ltB a a = false := by
  rw [ltB_eq]
  exact decide_eq_false (List.lt_irrefl _)
theorem ltB_trans {a b c : ByteArray} (h : ltB a b = true) (k : ltB b c = true) : ltB a c = true := by
  rw [ltB_eq] at *
  exact decide_eq_true (List.lt_trans (of_decide_eq_true h) (of_decide_eq_true k))
theorem toList_inj {a b : ByteArray} (h : a.toList = b.toList) : a = b := by
  rw [ByteArray.toList_eq, ByteArray.toList_eq] at h
  exact ByteArray.ext (Array.toList_inj.1 h)
theorem ltB_or {a b : ByteArray} (hne : a ≠ b) (h : ltB a b = false) : ltB b a = true := by
  rw [ltB_eq] at *
  have h1 : ¬ a.toList < b.toList := of_decide_eq_false h
  refine decide_eq_true ?_
  have h2 : b.toList ≤ a.toList := List.not_lt.1 h1
  rcases List.le_iff_lt_or_eq.1 h2 with h3 | h3
  · exact h3
  · exact absurd (toList_inj h3.symm) hne
def kat (l : List ByteArray) (i : Nat) : ByteArray := l.getD i ByteArray.empty
theorem rises_next {l : List ByteArray} (h : risesB l = true) {i : Nat} (h0 : 0 < i) (hi : i < l.length) : ltB (kat l (i - 1)) (kat l i) = true := by
  unfold risesB at h
  have h1 := List.all_eq_true.1 h i (List.mem_range.2 hi)
  have h2 : ¬ cmp2 (kat l i) (kat l (i - 1)) < 0 := by
    intro h3
    have h4 : ¬ i = 0 := by omega
    unfold kat at h3
    simp only [h3, h4, decide_true, decide_false] at h1
    cases h1
  unfold cmp2 cmpB at h2
  split at h2
  · exact absurd (by decide) h2
  · rename_i hne
    split at h2
    · exact absurd (by decide) h2
    · rename_i hlt
      exact ltB_or hne (by simpa using hlt)
theorem rises_lt {l : List ByteArray} (h : risesB l = true) : ∀ (d i : Nat), i + d + 1 < l.length → ltB (kat l i) (kat l (i + d + 1)) = true
  | 0, i, hi => rises_next h (i := i + 1) (by omega) hi
  | d + 1, i, hi => ltB_trans (rises_lt h d i (by omega)) (rises_next h (i := i + (d + 1) + 1) (by omega) hi)
theorem rises_all {l : List ByteArray} (h : risesB l = true) {i j : Nat} (hij : i < j) (hj : j < l.length) : ltB (kat l i) (kat l j) = true := by
  have := rises_lt h (j - i - 1) i (by omega)
  rwa [show i + (j - i - 1) + 1 = j by omega] at this
theorem findS_at {α : Type} (p : α → Bool) : ∀ (k : Nat) (l : List α) (i : Nat) (x : α), l[i]? = some x → p x = true → (∀ j y, j < i → l[j]? = some y → p y = false) → (findS (fun (_ : Unit) x => (p x, ())) k () l).1 = some (k + i)
  | k, y :: r, 0, x, h, hp, _ => by
    have : y = x := by simpa using h
    subst this
    simp [findS, hp]
  | k, y :: r, i + 1, x, h, hp, hn => by
    have hy := hn 0 y (by omega) (by simp)
    simp only [findS, hy, Bool.false_eq_true, if_false]
    have := findS_at p (k + 1) r i x (by simpa using h) hp (fun j z hj hz => hn (j + 1) z (by omega) (by simpa using hz))
    rw [this, show k + 1 + i = k + (i + 1) by omega]
  | _, [], _, _, h, _, _ => by simp at h
theorem findS_no {α : Type} (p : α → Bool) : ∀ (k : Nat) (l : List α), (∀ x ∈ l, p x = false) → (findS (fun (_ : Unit) x => (p x, ())) k () l).1 = none
  | _, [], _ => rfl
  | k, x :: r, h => by
    have hx := h x List.mem_cons_self
    simp only [findS, hx, Bool.false_eq_true, if_false]
    exact findS_no p (k + 1) r (fun y hy => h y (List.mem_cons_of_mem _ hy))
theorem kat_some {l : List ByteArray} {i : Nat} (h : i < l.length) : l[i]? = some (kat l i) := by
  unfold kat
  rw [List.getD_eq_getElem?_getD, List.getElem?_eq_getElem h]
  rfl
theorem idxS_yes {l : List ByteArray} {s : ByteArray} {i : Nat} (hi : i < l.length) (hb : ∀ j, j < i → ltB (kat l j) s = true) (he : kat l i = s) : idxS l s = some i := by
  have := findS_at (fun x => decide (s = x)) 0 l i _ (kat_some hi) (by simp [he]) (fun j y hj hy => by
    have h1 := hb j hj
    rw [kat_some (by omega)] at hy
    cases hy
    refine decide_eq_false fun e => ?_
    rw [← e, ltB_irrefl] at h1
    cases h1)
  rw [Nat.zero_add] at this
  exact this
theorem idxS_no {l : List ByteArray} {s : ByteArray} {i : Nat} (hr : risesB l = true) (hb : ∀ j, j < i → ltB (kat l j) s = true) (ha : ∀ j, i ≤ j → j < l.length → ltB (kat l j) s = false) (hn : i < l.length → kat l i ≠ s) : idxS l s = none := by
  refine findS_no (fun x => decide (s = x)) 0 l (fun x hx => decide_eq_false fun e => ?_)
  obtain ⟨j, hj⟩ := List.mem_iff_getElem?.1 hx
  have hl := (List.getElem?_eq_some_iff.1 hj).1
  rw [kat_some hl] at hj
  cases hj
  rcases Nat.lt_trichotomy j i with h | h | h
  · have h1 := hb j h
    rw [← e, ltB_irrefl] at h1
    cases h1
  · subst h
    exact hn hl e.symm
  · have h1 := rises_all hr h hl
    have h2 := ha i (Nat.le_refl _) (by omega)
    rw [← e, h2] at h1
    cases h1
section
variable {P : Program} {w : World} {ρ : Operand → Value} {o : Oper}
theorem r_shr1 {x y : Operand} {t t' : TypeId} {k ky : IntKind} {a : Int} (h : o.op = .binOp .shr t x y t') (hx : ρ x = .int k a) (hy : ρ y = .int ky 1) (hk : 1 ≤ k.bits) : (execOp ρ o).run P w = .ok (.value (.int k (a.fdiv 2))) w := by
  have hm : min 1 k.bits = 1 := Nat.min_eq_left hk
  simp [execOp, h, hx, hy, eqGuard, binOp, Op.shift, hm]
end
end Go.Proofs.YtndophlnapjkhaaGreatDoor.Vc
namespace Go.Proofs.YtndophlnapjkhaaGreatDoor.Vc
open Go Go.RowKit
set_option linter.unusedVariables false
set_option linter.unusedSimpArgs false
theorem tuple2 {t u : Nat} {e : Env} {a b : Value} (h : e t = a) (k : e u = b) : outv [t, u] e = .tuple #[a, b] := by
  rw [← h, ← k]
  rfl
theorem isNaN2_calls (w0 : World) (s : ByteArray) : Calls Tryz.prog 119 [.string s].toArray w0 fun en w' => en = .returned (.bool false) ∧ Ext0 w0 w' := by
  have hE : Ext0 w0 w0 := Ext.refl _ _
  refine calls [2] Tryz.func119 rfl rfl rfl rfl ?_
  refine c_seq ?_
  refine c_ops ?_
  refine l_val rfl rfl rfl (r_assign rfl) ?_
  refine l_nil ?_
  refine c_seq ?_
  refine c_ops ?_
  refine l_val rfl rfl rfl (r_move rfl) ?_
  refine l_val rfl rfl rfl (r_move rfl) ?_
  refine l_val rfl rfl rfl (r_sneq rfl rfl rfl) ?_
  refine l_val rfl rfl rfl (r_assign rfl) ?_
  refine l_nil ?_
  refine c_ret ?_
  exact ⟨ret_bool rfl (by simp), hE⟩
theorem Less_calls (w0 : World) (a b : ByteArray) : Calls Tryz.prog 118 [.string a, .string b].toArray w0 fun en w' => en = .returned (.bool (ltB a b)) ∧ Ext0 w0 w' := by
  have hE : Ext0 w0 w0 := Ext.refl _ _
  refine calls [4] Tryz.func118 rfl rfl rfl rfl ?_
  refine c_seq ?_
  refine c_ops ?_
  refine l_val rfl rfl rfl (r_assign rfl) ?_
  refine l_nil ?_
  refine c_seq ?_
  refine c_ops ?_
  refine l_val rfl rfl rfl (r_move rfl) ?_
  refine l_by rfl rfl rfl (r_call rfl rfl Tryz.func88 rfl rfl) (isNaN_calls _ _) ?_
  rintro _ w ⟨rfl, hX⟩
  replace hE := hE.trans hX
  refine ⟨_, rfl, ?_⟩
  refine l_val rfl rfl rfl (r_move rfl) ?_
  refine l_not rfl rfl rfl ?_
  refine l_not rfl rfl rfl ?_
  refine l_not rfl rfl rfl ?_
  refine l_val rfl rfl rfl (r_pick rfl rfl) ?_
  refine l_val rfl rfl rfl (r_move rfl) ?_
  refine l_val rfl rfl rfl (r_move rfl) ?_
  refine l_val rfl rfl rfl (r_move rfl) ?_
  refine l_val rfl rfl rfl (r_slss rfl rfl rfl) ?_
  refine l_val rfl rfl rfl (r_pick rfl rfl) ?_
  refine l_val rfl rfl rfl (r_assign rfl) ?_
  refine l_nil ?_
  refine c_ret ?_
  exact ⟨rfl, hE⟩
theorem Binary_calls (w0 : World) (A : Option Addr) (n c : Nat) (xs : List ByteArray) (s : ByteArray) (hx : Sl w0 1 RStr A n c xs) (hr : risesB xs = true) (hmax : n ≤ 4000000000000000000) :
    Calls Tryz.prog 111 [.slice A n c, .string s].toArray w0 fun en w' => ∃ i : Int, en = .returned (.tuple #[.int .i64 i, .bool (decide (0 ≤ idxV (idxS xs s)))]) ∧ (0 ≤ idxV (idxS xs s) → i = idxV (idxS xs s)) ∧ Ext0 w0 w' := by
  have hE : Ext0 w0 w0 := Ext.refl _ _
  have hlen : xs.length = n := hx.len
  have hsome := hx.is
  refine calls [4, 5] Tryz.func111 rfl rfl rfl rfl ?_
  refine c_seq ?_
  refine c_ops ?_
  refine l_val rfl rfl rfl (r_assign rfl) ?_
  refine l_val rfl rfl rfl (r_assign rfl) ?_
  refine l_nil ?_
  refine c_seq ?_
  refine c_ops ?_
  refine l_val rfl rfl rfl (r_move rfl) ?_
  refine l_val rfl rfl rfl (r_len rfl Tryz.underlying44 rfl) ?_
  refine l_val rfl rfl rfl (r_assign rfl) ?_
  refine l_nil ?_
  refine c_seq ?_
  refine c_ops ?_
  refine l_val rfl rfl rfl (r_move rfl) ?_
  refine l_val rfl rfl rfl (r_assign rfl) ?_
  refine l_val rfl rfl rfl (r_assign rfl) ?_
  refine l_nil ?_
  refine c_seq ?_
  refine c_block ?_
  refine c_loop [7, 8, 9, 13, 14, 15, 16, 17, 18, 19, 20, 21, 22, 23, 24, 25, 26, 27, 28, 29, 30] (fun m1 e w => ∃ i j : Nat, i ≤ j ∧ j ≤ n ∧ m1 = j - i ∧ e 7 = .int .i64 i ∧ e 8 = .int .i64 j ∧ (∀ k, k < i → ltB (kat xs k) s = true) ∧ (∀ k, j ≤ k → k < xs.length → ltB (kat xs k) s = false) ∧ Ext0 w0 w) n ?_ ?_
  · exact ⟨0, n, Nat.zero_le _, Nat.le_refl _, rfl, rfl, rfl, fun k h => absurd h (Nat.not_lt_zero _), fun k h1 h2 => by omega, hE⟩
  intro m1 e w hI
  obtain ⟨i, j, hij, hjn, hm, h7, h8, hlo, hhi, hE⟩ := hI
  refine c_know h7 ?_
  refine c_know (t := 8) (by exact h8) ?_
  refine c_seq ?_
  refine c_seq ?_
  refine c_ops ?_
  refine l_val rfl rfl rfl (r_move rfl) ?_
  refine l_val rfl rfl rfl (r_move rfl) ?_
  refine l_val rfl rfl rfl (r_lss rfl rfl rfl) ?_
  refine l_nil ?_
  refine c_cond rfl (fun hb => ?_) (fun hb => ?_)
  · have hr15 := hb
    replace hb := of_decide_eq_true hb
    obtain ⟨h, hh⟩ : ∃ h, h = (i + j) / 2 := ⟨_, rfl⟩
    have hsum : IntKind.i64.wrap ((i : Int) + j) = (i : Int) + j := wrap_small (by omega) (by omega)
    have hmid : IntKind.i64.wrap ((IntKind.u64.wrap ((i : Int) + j)).fdiv 2) = (h : Int) := by
      have h1 : IntKind.u64.wrap ((i : Int) + j) = (i : Int) + j := IntWalk.u64_in _ ⟨by omega, by omega⟩
      rw [h1, Int.fdiv_eq_ediv_of_nonneg _ (by decide)]
      rw [wrap_small (by omega) (by omega)]
      omega
    refine c_skip ?_
    refine c_block ?_
    refine c_seq ?_
 
    refine c_ops ?_
    refine l_val rfl rfl rfl (r_move rfl) ?_
    refine l_val rfl rfl rfl (r_move rfl) ?_
    refine l_val rfl rfl rfl ((r_add rfl rfl rfl).trans (by rw [hsum])) ?_
    refine l_val rfl rfl rfl (r_conv_int rfl Tryz.underlying3 Tryz.underlying136 rfl) ?_
    refine l_val rfl rfl rfl (r_shr1 rfl rfl rfl (by decide)) ?_
    refine l_val rfl rfl rfl ((r_conv_int rfl Tryz.underlying136 Tryz.underlying3 rfl).trans (by rw [hmid])) ?_
    refine l_val rfl rfl rfl (r_assign rfl) ?_
    refine l_nil ?_
    refine c_seq ?_
 
    refine c_ops ?_
    refine l_val rfl rfl rfl (r_move rfl) ?_
    refine l_val rfl rfl rfl (r_move rfl) ?_
    refine l_val rfl rfl rfl (r_indexAddr_sl rfl Tryz.underlying44 Tryz.sizeOf9 rfl hsome rfl (by omega) (by omega)) ?_
    refine l_val rfl rfl rfl (r_load (v := .string (kat xs h)) rfl Tryz.isAgg9 rfl (by have := (hx.keep RStr.kept (Ext0.cells hE)).str h (by omega) (by omega); rwa [Int.toNat_natCast] at this ⊢)) ?_
    refine l_val rfl rfl rfl (r_move rfl) ?_
    refine l_by rfl rfl rfl (r_call rfl rfl Tryz.func118 rfl rfl) (Less_calls _ _ _) ?_
    rintro _ w ⟨rfl, hX⟩
    replace hE := hE.trans hX
    refine ⟨_, rfl, ?_⟩
    refine l_nil ?_
    refine c_cond rfl (fun hb => ?_) (fun hb => ?_)
    · have hr27 := hb
      have hsucc : IntKind.i64.wrap ((h : Int) + 1) = ((h + 1 : Nat) : Int) := wrap_succ (n := n) (by omega) (by omega)
      have hlo2 : ∀ k, k < h + 1 → ltB (kat xs k) s = true := fun k hk => by
        rcases Nat.lt_or_eq_of_le (Nat.le_of_lt_succ hk) with h1 | rfl
        · exact ltB_trans (rises_all hr h1 (by omega)) hb
        · exact hb
   
      refine c_ops ?_
      refine l_val rfl rfl rfl (r_move rfl) ?_
      refine l_val rfl rfl rfl (r_add rfl rfl rfl) ?_
      refine l_val rfl rfl rfl (r_assign rfl) ?_
      refine l_nil ?_
      refine ⟨by repeat (first | exact Agree.over _ _ _ | exact Agree.refl _ _ | (refine Agree.puto ?_ _ _ rfl) | (refine Agree.put ?_ _ _ rfl) | (refine Agree.sub ?_ rfl)), ?_⟩
      first | exact ⟨j - (h + 1), by omega, h + 1, j, by omega, hjn, rfl, by show Value.int .i64 (IntKind.i64.wrap ((h : Int) + 1)) = _; rw [hsucc], rfl, hlo2, hhi, hE⟩ | exact ⟨h - i, by omega, i, h, by omega, by omega, rfl, rfl, rfl, hlo, hhi2, hE⟩
    · have hr27 := hb
      have hhi2 : ∀ k, h ≤ k → k < xs.length → ltB (kat xs k) s = false := fun k hk hkl => by
        rcases Nat.lt_or_eq_of_le hk with h1 | rfl
        · cases h2 : ltB (kat xs k) s with
          | false => rfl
          | true => rw [ltB_trans (rises_all hr h1 hkl) h2] at hb; cases hb
        · exact hb
   
      refine c_ops ?_
      refine l_val rfl rfl rfl (r_move rfl) ?_
      refine l_val rfl rfl rfl (r_assign rfl) ?_
      refine l_nil ?_
      refine ⟨by repeat (first | exact Agree.over _ _ _ | exact Agree.refl _ _ | (refine Agree.puto ?_ _ _ rfl) | (refine Agree.put ?_ _ _ rfl) | (refine Agree.sub ?_ rfl)), ?_⟩
      first | exact ⟨j - (h + 1), by omega, h + 1, j, by omega, hjn, rfl, by show Value.int .i64 (IntKind.i64.wrap ((h : Int) + 1)) = _; rw [hsucc], rfl, hlo2, hhi, hE⟩ | exact ⟨h - i, by omega, i, h, by omega, by omega, rfl, rfl, rfl, hlo, hhi2, hE⟩
  · have hr15 := hb
    replace hb := of_decide_eq_false hb
    obtain rfl : i = j := by omega
    refine c_exit ?_
    refine c_seq ?_
 
    refine c_ops ?_
    refine l_val rfl rfl rfl (r_move rfl) ?_
    refine l_val rfl rfl rfl (r_move rfl) ?_
    refine l_val rfl rfl rfl (r_move rfl) ?_
    refine l_val rfl rfl rfl (r_lss rfl rfl rfl) ?_
    refine l_val rfl rfl rfl (r_move rfl) ?_
    refine l_case 35 rfl (fun hb => ?_) (fun hb => ?_)
    · have hr35 := hb
      replace hb := of_decide_eq_true hb
      have hin : i < xs.length := by omega
      refine l_val rfl rfl rfl (r_move rfl) ?_
      refine l_val rfl rfl rfl (r_move rfl) ?_
      refine l_val rfl rfl rfl (r_indexAddr_sl rfl Tryz.underlying44 Tryz.sizeOf9 rfl hsome rfl (by omega) (by omega)) ?_
      refine l_val rfl rfl rfl (r_load (v := .string (kat xs i)) rfl Tryz.isAgg9 rfl (by have := (hx.keep RStr.kept (Ext0.cells hE)).str i (by omega) (by omega); rwa [Int.toNat_natCast] at this ⊢)) ?_
      refine l_val rfl rfl rfl (r_move rfl) ?_
      refine l_val rfl rfl rfl (r_seql rfl rfl rfl) ?_
      refine l_val rfl rfl rfl (r_move rfl) ?_
      refine l_case 42 rfl (fun hb => ?_) (fun hb => ?_)
      · have hr42 := hb
        replace hb := of_decide_eq_true hb
        have hid : idxS xs s = some i := idxS_yes hin hlo hb
        have hdec : decide (0 ≤ idxV (idxS xs s)) = true := by rw [hid]; simp [idxV]
        have hres : 0 ≤ idxV (idxS xs s) → (i : Int) = idxV (idxS xs s) := fun _ => by rw [hid]; rfl
        refine l_not rfl rfl rfl ?_
        refine l_not rfl rfl rfl ?_
        refine l_not rfl rfl rfl ?_
        refine l_not rfl rfl rfl ?_
        refine l_not rfl rfl rfl ?_
        refine l_not rfl rfl rfl ?_
        refine l_not rfl rfl rfl ?_
        refine l_not rfl rfl rfl ?_
        refine l_not rfl rfl rfl ?_
        refine l_val rfl rfl rfl (r_pick rfl rfl) ?_
        refine l_val rfl rfl rfl (r_pick rfl rfl) ?_
        refine l_val rfl rfl rfl (r_assign rfl) ?_
        refine l_val rfl rfl rfl (r_assign rfl) ?_
        refine l_nil ?_
        refine c_ret ?_
        exact ⟨(i : Int), congrArg Ending.returned (tuple2 rfl (congrArg Value.bool hdec.symm)), hres, hE⟩
      · have hr42 := hb
        replace hb := of_decide_eq_false hb
        have hid : idxS xs s = none := idxS_no hr hlo hhi (fun _ => hb)
        have hdec : decide (0 ≤ idxV (idxS xs s)) = false := by rw [hid]; rfl
        have hres : 0 ≤ idxV (idxS xs s) → (i : Int) = idxV (idxS xs s) := fun h => absurd h (of_decide_eq_false hdec)
        refine l_val rfl rfl rfl (r_move rfl) ?_
        refine l_val rfl rfl rfl (r_move rfl) ?_
        refine l_val rfl rfl rfl (r_indexAddr_sl rfl Tryz.underlying44 Tryz.sizeOf9 rfl hsome rfl (by omega) (by omega)) ?_
        refine l_val rfl rfl rfl (r_load (v := .string (kat xs i)) rfl Tryz.isAgg9 rfl (by have := (hx.keep RStr.kept (Ext0.cells hE)).str i (by omega) (by omega); rwa [Int.toNat_natCast] at this ⊢)) ?_
        refine l_by rfl rfl rfl (r_call rfl rfl Tryz.func119 rfl rfl) (isNaN2_calls _ _) ?_
        rintro _ w ⟨rfl, hX⟩
        replace hE := hE.trans hX
        refine ⟨_, rfl, ?_⟩
        refine l_val rfl rfl rfl (r_move rfl) ?_
        refine l_not rfl rfl rfl ?_
        refine l_not rfl rfl rfl ?_
        refine l_val rfl rfl rfl (r_pick rfl rfl) ?_
        refine l_val rfl rfl rfl (r_pick rfl rfl) ?_
        refine l_val rfl rfl rfl (r_pick rfl rfl) ?_
        refine l_val rfl rfl rfl (r_assign rfl) ?_
        refine l_val rfl rfl rfl (r_assign rfl) ?_
        refine l_nil ?_
        refine c_ret ?_
        exact ⟨(i : Int), congrArg Ending.returned (tuple2 rfl (congrArg Value.bool hdec.symm)), hres, hE⟩
    · have hr35 := hb
      replace hb := of_decide_eq_false hb
      have hid : idxS xs s = none := idxS_no hr hlo hhi (fun h => by omega)
      have hdec : decide (0 ≤ idxV (idxS xs s)) = false := by rw [hid]; rfl
      have hres : 0 ≤ idxV (idxS xs s) → (i : Int) = idxV (idxS xs s) := fun h => absurd h (of_decide_eq_false hdec)
      refine l_not rfl rfl rfl ?_
      refine l_not rfl rfl rfl ?_
      refine l_not rfl rfl rfl ?_
      refine l_not rfl rfl rfl ?_
      refine l_not rfl rfl rfl ?_
      refine l_not rfl rfl rfl ?_
      refine l_not rfl rfl rfl ?_
      refine l_not rfl rfl rfl ?_
      refine l_not rfl rfl rfl ?_
      refine l_not rfl rfl rfl ?_
      refine l_not rfl rfl rfl ?_
      refine l_not rfl rfl rfl ?_
      refine l_not rfl rfl rfl ?_
      refine l_not rfl rfl rfl ?_
      refine l_not rfl rfl rfl ?_
      refine l_not rfl rfl rfl ?_
      refine l_not rfl rfl rfl ?_
      refine l_val rfl rfl rfl (r_pick rfl rfl) ?_
      refine l_val rfl rfl rfl (r_assign rfl) ?_
      refine l_val rfl rfl rfl (r_assign rfl) ?_
      refine l_nil ?_
      refine c_ret ?_
      exact ⟨(i : Int), congrArg Ending.returned (tuple2 rfl (congrArg Value.bool hdec.symm)), hres, hE⟩
end Go.Proofs.YtndophlnapjkhaaGreatDoor.Vc
