/- FactSound of the layer 'fact': facts that hold, in plain Lean; few of the statements, All of package sub, and the statement's walk. Conditions: those of each statement. -/
import Derived.Test.YtndophlnapjkhaaDoorLaw5
namespace Go.Proofs.YtndophlnapjkhaaDoor.Vc
open Go Go.RowKit
set_option linter.unusedVariables false
set_option linter.unusedSimpArgs false
theorem match_mem {l : List Fact} : ∀ (ps : FP) (ks : List Int), matchF l ps ks = true → ps.length = ks.length → (∀ k ∈ ks, 0 ≤ k ∧ k < l.length) → ∀ p ∈ ps, p ∈ prs l
  | [], _, _, _, _, p, h => by simp at h
  | q :: ps, [], _, hl, _, p, h => by simp at hl
  | q :: ps, k :: ks, hm, hl, hk, p, h => by
    unfold matchF at hm
    rw [Bool.and_eq_true] at hm
    rcases List.mem_cons.1 h with rfl | h
    · have h1 := of_decide_eq_true hm.1
      have h2 := hk k List.mem_cons_self
      have h3 := fat_mem h2.1 h2.2
      rw [h1]
      exact List.mem_map.2 ⟨_, h3, rfl⟩
    · exact match_mem ps ks hm.2 (by simpa using hl) (fun k h => hk k (List.mem_cons_of_mem _ h)) p h
theorem plainOn_recX {X : Int × Int → Bool} {s : GNode} : ∀ (items : List (ByteArray × Int)) (on : FP), plainOn s items = some on → (∀ q ∈ on, X q = true) → recX X s items = true
  | [], _, _, _ => rfl
  | (key, tl) :: r, on, h, hX => by
    unfold plainOn at h
    split at h
    · cases h
    · rename_i h0
      obtain ⟨on', h1, rfl⟩ := Option.map_eq_some_iff.1 h
      unfold recX
      rw [if_neg h0, hX _ List.mem_cons_self, Bool.true_and]
      exact plainOn_recX r on' h1 (fun q hq => hX q (List.mem_cons_of_mem _ hq))
/-- A fact that is no union's and holds by pairs of X: something does. -/
theorem pick_of {g : List GNode} {X : Int × Int → Bool} {f : Fact} (hok : GraphOk g) (hfo : FactOk g f) (h8 : (gat g f.a).kind ≠ 8) (hy : (byF g f).2 = true) (hX : ∀ q ∈ (byF g f).1, X q = true) : pickX g false X f.a f.b ≠ -2 := by
  rw [pickX_some]
  have hu : (unionF g f).1 = false := by simp [unionF, h8]
  unfold byF at hy hX
  rw [hu] at hy hX
  by_cases hb : (gat g f.a).kind = 9 ∧ iat f.why 0 = -1
  · have hbt : boundF g f = (true, [(iat (gat g f.a).l 0, f.b)], true) := by unfold boundF; rw [if_pos hb]
    rw [hbt] at hX
    exact .inr ⟨hb.1, hX _ (by simp)⟩
  · have hbf : (boundF g f).1 = false := by unfold boundF; rw [if_neg hb]
    rw [hbf] at hy hX
    have hi := hfo.idx h8 hb
    have hch := chosen_in hok hi
    have hmem : iat (membersG g f.b) (iat f.why 0) ∈ membersG g f.b := by
      have := iat_nat (l := membersG g f.b) (k := (iat f.why 0).toNat) (by omega)
      rw [Int.toNat_of_nonneg hi.1] at this
      exact List.mem_of_getElem? this
    refine .inl (List.any_eq_true.2 ⟨_, hmem, ?_⟩)
    show doesX false X (gat g f.a) (chosenF g f) = true
    unfold doesX
    by_cases hd : (gat g f.a).kind = 1 ∨ (chosenF g f).kind = 1
    · rw [if_pos hd]
      rfl
    · have hl : (looseF g f).1 = false := by simp [looseF, hd]
      rw [hl] at hy hX
      rw [if_neg hd]
      have hy' : (plainR (gat g f.a) (chosenF g f)).2 = true := hy
      have hX' : ∀ q ∈ (plainR (gat g f.a) (chosenF g f)).1, X q = true := hX
      have hod : oddF (gat g f.a) (chosenF g f) = false := by
        cases ho : oddF (gat g f.a) (chosenF g f) with
        | false => rfl
        | true => unfold plainR at hy'; rw [if_pos ho] at hy'; cases hy'
      have hods := hod
      unfold oddF at hods
      simp at hods
      obtain ⟨⟨hk, hnm⟩, hnum⟩ := hods
      unfold plainR at hy' hX'
      rw [hod] at hy' hX'
      simp only [Bool.false_eq_true, if_false] at hy' hX'
      rw [if_pos hk]
      unfold ruleX
      by_cases h5 : (gat g f.a).kind = 5
      · rw [if_pos h5]
        exact decide_eq_true hnm
      · rw [if_neg h5]
        by_cases h7 : (gat g f.a).kind = 7
        · rw [if_pos h7]
          rw [if_neg (by omega)] at hy' hX'
          cases hon : plainOn (gat g f.a) ((chosenF g f).keys.zip (chosenF g f).l) with
          | none => rw [hon] at hy'; cases hy'
          | some on =>
            rw [hon] at hX'
            exact plainOn_recX _ on hon hX'
        · rw [if_neg h7]
          by_cases h9 : (gat g f.a).kind = 9
          · rw [if_pos h9, if_pos hnum]
            rw [if_pos h9] at hX'
            exact hX' _ (by simp)
          · rw [if_neg h9]
/-- The stage's law: facts that all hold say what may stand for what. -/
theorem facts_sound {g : List GNode} {l : List Fact} (hok : GraphOk g) (hf : ∀ f ∈ l, formedF g l.length f = true) (hh : ∀ f ∈ l, holdsF g l f = true) : ∀ f ∈ l, mayX g false (f.a, f.b) = true := by
  obtain ⟨R, hR⟩ : ∃ R : Int × Int → Bool, ∀ p, R p = true ↔ p ∈ prs l := ⟨fun p => decide (p ∈ prs l), fun p => decide_eq_true_iff⟩
  have hgo : ∀ f ∈ l, (byF g f).2 = true ∧ ∀ q ∈ (byF g f).1, R q = true := fun f hfl => by
    have h := hh f hfl
    unfold holdsF at h
    rw [Bool.and_eq_true, Bool.and_eq_true] at h
    refine ⟨h.1.1, fun q hq => (hR q).2 (match_mem _ _ h.2 ?_ (formed_ok (hf f hfl)).2 q hq)⟩
    have := of_decide_eq_true h.1.2
    omega
  intro f hfl
  refine may_great (R := R) (fun p hp => ?_) ((hR _).2 (List.mem_map.2 ⟨f, hfl, rfl⟩))
  obtain ⟨f1, hf1, rfl⟩ := List.mem_map.1 ((hR p).1 hp)
  have hfo := (formed_ok (hf f1 hf1)).1
  rw [holdsX_iff]
  intro s hs
  by_cases h8 : (gat g f1.a).kind = 8
  · have hsl : s ∈ (gat g f1.a).l := by
      unfold membersG at hs
      rw [if_neg (by have := hfo.a; omega), if_pos h8] at hs
      exact hs
    have hby : (byF g f1).1 = (gat g f1.a).l.map (fun m => (m, f1.b)) := by
      unfold byF
      simp [unionF, h8]
    have hr := (hgo f1 hf1).2 (s, f1.b) (by rw [hby]; exact List.mem_map.2 ⟨s, hsl, rfl⟩)
    obtain ⟨f2, hf2, he⟩ := List.mem_map.1 ((hR _).1 hr)
    simp only [Prod.mk.injEq] at he
    have hfo2 := (formed_ok (hf f2 hf2)).1
    have hs8 : (gat g s).kind ≠ 8 := by
      rcases hok.is (gat_inn hfo.a.1 hfo.a.2) with ⟨h, _⟩ | ⟨h, _⟩ | ⟨h, _⟩ | ⟨h, hl, _⟩ | ⟨h, _⟩
      · omega
      · omega
      · omega
      · exact hl s hsl
      · omega
    have := pick_of hok hfo2 (by rw [he.1]; exact hs8) (hgo f2 hf2).1 (hgo f2 hf2).2
    rw [he.1, he.2] at this
    exact this
  · rw [membersG_one hfo.a.1 hfo.a.2 h8, List.mem_singleton] at hs
    subst hs
    exact pick_of hok hfo h8 (hgo f1 hf1).1 (hgo f1 hf1).2

def cutFact (f : Fact) : Fact := ⟨f.a, f.b, f.why.take 20⟩
def fewF (l : List Fact) : List Fact := (l.take 30).map cutFact
theorem r_cut20 {P : Program} {w : World} {ρ : Operand → Value} {o : Oper} {x i : Operand} {t el : TypeId} {A : Option Addr} {n c sz : Nat} {k : IntKind} (h : o.op = .slice t x none (some i) none) (hu : P.underlying t = some (.slice el)) (hs : Sized P el sz) (hx : ρ x = .slice A n c) (hi : ρ i = .int k (if (20 : Int) < (n : Int) then 20 else (n : Int))) (hc : n ≤ c) : (execOp ρ o).run P w = .ok (.value (.slice A (min n 20) c)) w := by
  have := r_slice_to (P := P) (w := w) h hu hs hx hi (by split <;> omega) (by split <;> omega)
  rw [show (20 : Int) = ((20 : Nat) : Int) from rfl, cut_nat] at this
  exact this
set_option maxHeartbeats 20000000 in
theorem few_calls (w0 : World) (A : Option Addr) (c : Nat) (l : List Fact) (hl : FactsAt w0 A c l) :
    Calls Tryd.prog 22 [.slice A l.length c].toArray w0 fun en w' => ∃ A' c', en = .returned (.slice A' (fewF l).length c') ∧ FactsAt w' A' c' (fewF l) ∧ Ext0 w0 w' := by
  have hE : Ext0 w0 w0 := Ext.refl _ _
  have hL : Has w0 [] := trivial
  refine calls [2] Tryd.func22 rfl rfl rfl rfl ?_
  refine c_seq ?_
  -- region 0
  refine c_ops ?_
  refine l_val rfl rfl rfl (r_assign rfl) ?_
  refine l_nil ?_
  refine c_seq ?_
  -- region 1
  refine c_ops ?_
  refine l_val rfl rfl rfl (r_assign rfl) ?_
  refine l_nil ?_
  refine c_seq ?_
  refine c_seq ?_
  -- region 2
  refine c_ops ?_
  refine l_val rfl rfl rfl (r_assign rfl) ?_
  refine l_nil ?_
  refine c_block ?_
  -- loop 0: slots that it writes and that are read in it ahead of that: [4, 3]
  refine c_loop0 (fun m1 e w => (e 0 = .slice A l.length c) ∧ (∃ (n : Nat) (out : Value) (fv : List FV), n ≤ l.length ∧ n ≤ 30 ∧ m1 = 30 - n ∧ e 4 = .int .i64 n ∧ e 3 = out ∧ fv.map (·.1) = (l.take n).map cutFact ∧ Has w (.row w0.heap.size 37 3 out (fv).length ((fv).map fcell).flatten :: (fv).map (fres 3 w0.heap.size)) ∧ Ext0 w0 w)) 30 ?_ ?_
  · exact ⟨rfl, 0, .slice none 0 0, [], Nat.zero_le _, Nat.zero_le _, rfl, rfl, rfl, rfl, hL.nilRow _ _ _, hE⟩
  rintro m1 e w ⟨hq0, hI⟩
  refine c_know (t := 0) (by exact hq0) ?_
  clear hq0
  obtain ⟨n, out, fv, hnl, hn30', hmn, h4, h3, hfv, hL, hE⟩ := hI
  refine c_know (t := 4) (by exact h4) ?_
  refine c_know (t := 3) (by exact h3) ?_
  have hlm0 := hl.max
  have hfvl : fv.length = n := by have := congrArg List.length hfv; simpa [Nat.min_eq_left hnl] using this
  refine c_seq ?_
  refine c_seq ?_
  -- region 3
  refine c_ops ?_
  refine l_val rfl rfl rfl (r_move rfl) ?_
  refine l_val rfl rfl rfl (r_move rfl) ?_
  refine l_val rfl rfl rfl (r_len rfl Tryd.underlying29 rfl) ?_
  refine l_val rfl rfl rfl (r_lss rfl rfl rfl) ?_
  refine l_val rfl rfl rfl (r_move rfl) ?_
  refine l_case 9 rfl (fun hb => ?_) (fun hb => ?_)
  · -- slot 9 is True
    have hr9 := hb
    replace hb := of_decide_eq_true hb
    have hnn : n < l.length := by omega
    refine l_val rfl rfl rfl (r_move rfl) ?_
    refine l_val rfl rfl rfl (r_lss rfl rfl rfl) ?_
    refine l_val rfl rfl rfl (r_pick rfl rfl) ?_
    refine l_nil ?_
    refine c_cond rfl (fun hb => ?_) (fun hb => ?_)
    · -- True
      have hr12 := hb
      replace hb := of_decide_eq_true hb
      have hn30 : n < 30 := by omega
      obtain ⟨A1, c1, hfc, hfw⟩ := hl.fact n (by omega) (by omega)
      have hlm := hfw.max
      refine c_skip ?_
      refine c_seq ?_
      refine c_block ?_
      -- region 5
      refine c_draw mixed (hL.sub (.cons _ (.refl _))) hE ?_
      replace hL := hL.drew
      replace hE := hE.drew
      have hK := hL.sub (.cons _ (.refl _))
      refine h_t 0 rfl rfl (by kernel_rfl) (fun _ _ _ h => h) ⟨hK, hE⟩ rfl (fun W hW => r_move rfl) ?_
      refine h_listed (listed' := #[true, false, false, false, false, false, false, false, false, false, false, false, false, false, false, false, false, false, false, false, false, false, false, false, false, false, false, false, false]) (by kernel_rfl) ?_
      refine h_t 1 rfl rfl (by kernel_rfl) (fun _ _ _ h => h) ⟨hK, hE⟩ rfl (fun W hW => r_move rfl) ?_
      refine h_listed (listed' := #[true, true, false, false, false, false, false, false, false, false, false, false, false, false, false, false, false, false, false, false, false, false, false, false, false, false, false, false, false]) (by kernel_rfl) ?_
      refine h_t 2 rfl rfl (by kernel_rfl) (fun _ _ _ h => h) ⟨hK, hE⟩ rfl (fun W hW => r_move rfl) ?_
      refine h_listed (listed' := #[true, true, true, false, false, false, false, false, false, false, false, false, false, false, false, false, false, false, false, false, false, false, false, false, false, false, false, false, false]) (by kernel_rfl) ?_
      refine h_t 3 rfl rfl (by kernel_rfl) (fun _ _ _ h => h) ⟨hK, hE⟩ rfl (fun W hW => r_indexAddr_sl rfl Tryd.underlying29 Tryd.sizeOf37 rfl hl.is rfl (by omega) (by omega)) ?_
      refine h_listed (listed' := #[true, true, true, true, false, false, false, false, false, false, false, false, false, false, false, false, false, false, false, false, false, false, false, false, false, false, false, false, false]) (by kernel_rfl) ?_
      refine h_t 4 rfl rfl (by kernel_rfl) (fun _ _ _ h => h) ⟨hK, hE⟩ rfl (fun W hW => r_fieldAddr (n := 0) rfl Tryd.underlying37 rfl Tryd.sizeOf3 rfl) ?_
      refine h_listed (listed' := #[true, true, true, true, true, false, false, false, false, false, false, false, false, false, false, false, false, false, false, false, false, false, false, false, false, false, false, false, false]) (by kernel_rfl) ?_
      refine h_t 5 rfl rfl (by kernel_rfl) (fun _ _ _ h => h) ⟨hK, hE⟩ rfl (fun W hW => r_load rfl Tryd.isAgg3 rfl (Ext0.cells hW.2 _ _ (hfc 0 _ rfl))) ?_
      refine h_listed (listed' := #[true, true, true, true, true, true, false, false, false, false, false, false, false, false, false, false, false, false, false, false, false, false, false, false, false, false, false, false, false]) (by kernel_rfl) ?_
      refine h_t 6 rfl rfl (by kernel_rfl) (fun _ _ _ h => h) ⟨hK, hE⟩ rfl (fun W hW => r_move rfl) ?_
      refine h_listed (listed' := #[true, true, true, true, true, true, true, false, false, false, false, false, false, false, false, false, false, false, false, false, false, false, false, false, false, false, false, false, false]) (by kernel_rfl) ?_
      refine h_t 7 rfl rfl (by kernel_rfl) (fun _ _ _ h => h) ⟨hK, hE⟩ rfl (fun W hW => r_move rfl) ?_
      refine h_listed (listed' := #[true, true, true, true, true, true, true, true, false, false, false, false, false, false, false, false, false, false, false, false, false, false, false, false, false, false, false, false, false]) (by kernel_rfl) ?_
      refine h_t 8 rfl rfl (by kernel_rfl) (fun _ _ _ h => h) ⟨hK, hE⟩ rfl (fun W hW => r_indexAddr_sl rfl Tryd.underlying29 Tryd.sizeOf37 rfl hl.is rfl (by omega) (by omega)) ?_
      refine h_listed (listed' := #[true, true, true, true, true, true, true, true, true, false, false, false, false, false, false, false, false, false, false, false, false, false, false, false, false, false, false, false, false]) (by kernel_rfl) ?_
      refine h_t 9 rfl rfl (by kernel_rfl) (fun _ _ _ h => h) ⟨hK, hE⟩ rfl (fun W hW => r_fieldAddr (n := 0) rfl Tryd.underlying37 rfl Tryd.sizeOf3 rfl) ?_
      refine h_listed (listed' := #[true, true, true, true, true, true, true, true, true, true, false, false, false, false, false, false, false, false, false, false, false, false, false, false, false, false, false, false, false]) (by kernel_rfl) ?_
      refine h_t 10 rfl rfl (by kernel_rfl) (fun _ _ _ h => h) ⟨hK, hE⟩ rfl (fun W hW => r_load rfl Tryd.isAgg3 rfl (Ext0.cells hW.2 _ _ (hfc 1 _ rfl))) ?_
      refine h_listed (listed' := #[true, true, true, true, true, true, true, true, true, true, true, false, false, false, false, false, false, false, false, false, false, false, false, false, false, false, false, false, false]) (by kernel_rfl) ?_
      refine h_t 11 rfl rfl (by kernel_rfl) (fun _ _ _ h => h) ⟨hK, hE⟩ rfl (fun W hW => r_move rfl) ?_
      refine h_listed (listed' := #[true, true, true, true, true, true, true, true, true, true, true, true, false, false, false, false, false, false, false, false, false, false, false, false, false, false, false, false, false]) (by kernel_rfl) ?_
      refine h_t 12 rfl rfl (by kernel_rfl) (fun _ _ _ h => h) ⟨hK, hE⟩ rfl (fun W hW => r_move rfl) ?_
      refine h_listed (listed' := #[true, true, true, true, true, true, true, true, true, true, true, true, true, false, false, false, false, false, false, false, false, false, false, false, false, false, false, false, false]) (by kernel_rfl) ?_
      refine h_t 13 rfl rfl (by kernel_rfl) (fun _ _ _ h => h) ⟨hK, hE⟩ rfl (fun W hW => r_indexAddr_sl rfl Tryd.underlying29 Tryd.sizeOf37 rfl hl.is rfl (by omega) (by omega)) ?_
      refine h_listed (listed' := #[true, true, true, true, true, true, true, true, true, true, true, true, true, true, false, false, false, false, false, false, false, false, false, false, false, false, false, false, false]) (by kernel_rfl) ?_
      refine h_t 14 rfl rfl (by kernel_rfl) (fun _ _ _ h => h) ⟨hK, hE⟩ rfl (fun W hW => r_fieldAddr (n := 0) rfl Tryd.underlying37 rfl Tryd.sizeOf30 rfl) ?_
      refine h_listed (listed' := #[true, true, true, true, true, true, true, true, true, true, true, true, true, true, true, false, false, false, false, false, false, false, false, false, false, false, false, false, false]) (by kernel_rfl) ?_
      refine h_t 15 rfl rfl (by kernel_rfl) (fun _ _ _ h => h) ⟨hK, hE⟩ rfl (fun W hW => r_load rfl Tryd.isAgg30 rfl (Ext0.cells hW.2 _ _ (hfc 2 _ rfl))) ?_
      refine h_listed (listed' := #[true, true, true, true, true, true, true, true, true, true, true, true, true, true, true, true, false, false, false, false, false, false, false, false, false, false, false, false, false]) (by kernel_rfl) ?_
      refine h_t 16 rfl rfl (by kernel_rfl) (fun _ _ _ h => h) ⟨hK, hE⟩ rfl (fun W hW => r_move rfl) ?_
      refine h_listed (listed' := #[true, true, true, true, true, true, true, true, true, true, true, true, true, true, true, true, true, false, false, false, false, false, false, false, false, false, false, false, false]) (by kernel_rfl) ?_
      refine h_t 17 rfl rfl (by kernel_rfl) (fun _ _ _ h => h) ⟨hK, hE⟩ rfl (fun W hW => r_move rfl) ?_
      refine h_listed (listed' := #[true, true, true, true, true, true, true, true, true, true, true, true, true, true, true, true, true, true, false, false, false, false, false, false, false, false, false, false, false]) (by kernel_rfl) ?_
      refine h_t 18 rfl rfl (by kernel_rfl) (fun _ _ _ h => h) ⟨hK, hE⟩ rfl (fun W hW => r_indexAddr_sl rfl Tryd.underlying29 Tryd.sizeOf37 rfl hl.is rfl (by omega) (by omega)) ?_
      refine h_listed (listed' := #[true, true, true, true, true, true, true, true, true, true, true, true, true, true, true, true, true, true, true, false, false, false, false, false, false, false, false, false, false]) (by kernel_rfl) ?_
      refine h_t 19 rfl rfl (by kernel_rfl) (fun _ _ _ h => h) ⟨hK, hE⟩ rfl (fun W hW => r_fieldAddr (n := 0) rfl Tryd.underlying37 rfl Tryd.sizeOf30 rfl) ?_
      refine h_listed (listed' := #[true, true, true, true, true, true, true, true, true, true, true, true, true, true, true, true, true, true, true, true, false, false, false, false, false, false, false, false, false]) (by kernel_rfl) ?_
      refine h_t 20 rfl rfl (by kernel_rfl) (fun _ _ _ h => h) ⟨hK, hE⟩ rfl (fun W hW => r_load rfl Tryd.isAgg30 rfl (Ext0.cells hW.2 _ _ (hfc 2 _ rfl))) ?_
      refine h_listed (listed' := #[true, true, true, true, true, true, true, true, true, true, true, true, true, true, true, true, true, true, true, true, true, false, false, false, false, false, false, false, false]) (by kernel_rfl) ?_
      refine h_t 21 rfl rfl (by kernel_rfl) (fun _ _ _ h => h) ⟨hK, hE⟩ rfl (fun W hW => r_len rfl Tryd.underlying30 rfl) ?_
      refine h_listed (listed' := #[true, true, true, true, true, true, true, true, true, true, true, true, true, true, true, true, true, true, true, true, true, true, false, false, false, false, false, false, false]) (by kernel_rfl) ?_
      refine h_t 22 rfl rfl (by kernel_rfl) (fun _ _ _ h => h) ⟨hK, hE⟩ rfl (fun W hW => r_min rfl rfl rfl) ?_
      refine h_listed (listed' := #[true, true, true, true, true, true, true, true, true, true, true, true, true, true, true, true, true, true, true, true, true, true, true, false, false, false, false, false, false]) (by kernel_rfl) ?_
      refine h_t 23 rfl rfl (by kernel_rfl) (fun _ _ _ h => h) ⟨hK, hE⟩ rfl (fun W hW => r_cut20 rfl Tryd.underlying30 Tryd.sizeOf3 rfl rfl hfw.cap) ?_
      refine h_listed (listed' := #[true, true, true, true, true, true, true, true, true, true, true, true, true, true, true, true, true, true, true, true, true, true, true, true, false, false, false, false, false]) (by kernel_rfl) ?_
      refine h_by 24 rfl rfl (by kernel_rfl) rfl (r_call rfl rfl Tryd.func17 rfl rfl) (CopyInts_calls _ A1 (min (fat l n).why.length 20) c1 ((fat l n).why.take 20) ((hfw.keep RInt.kept (Ext0.cells hE)).take 20) (by omega)) ?_   -- law.go:29 slot 39 := (call {callee=(value (func 17)), args=[(tmp 38)], argTypes=[30]})
      rintro _ w ⟨lv0, rfl, hrow, hX⟩
      rw [show min (fat l n).why.length 20 = ((fat l n).why.take 20).length from by rw [List.length_take, Nat.min_comm]] at hrow
      have h1l := one_row hrow
      obtain ⟨Al2, cl2, rfl⟩ := ownsRow_slice hrow
      replace hL := hL.cons hX (r := .row w0.heap.size 3 1 (Value.slice Al2 ((fat l n).why.take 20).length cl2) ((fat l n).why.take 20).length (((fat l n).why.take 20).map (Value.int .i64))) (ownsRow_base hrow hE.size) (fun b hb => (ownsRow_lt hrow hb).2)
      replace hE := hE.step0 hX
      have hK := hL.sub (.cons _ (.cons _ (.refl _)))
      refine ⟨_, rfl, ⟨hK, hE⟩, ?_⟩
      refine h_listed (listed' := #[true, true, true, true, true, true, true, true, true, true, true, true, true, true, true, true, true, true, true, true, true, true, true, true, true, false, false, false, false]) (by kernel_rfl) ?_
      refine h_t 25 rfl rfl (by kernel_rfl) (fun _ _ _ h => h) ⟨hK, hE⟩ rfl (fun W hW => r_build rfl rfl (built_f3 _ _ _ _ _)) ?_   -- law.go:29 slot 40 := (build 37 [(0, (tmp 20)), (1, (tmp 25)), (2, (tmp 39))])
      refine h_listed (listed' := #[true, true, true, true, true, true, true, true, true, true, true, true, true, true, true, true, true, true, true, true, true, true, true, true, true, true, false, false, false]) (by kernel_rfl) ?_
      refine h_new 26 rfl rfl (by kernel_rfl) rfl (n_slice (cells := #[.int .i64 (fat l n).a, .int .i64 (fat l n).b, (Value.slice Al2 ((fat l n).why.take 20).length cl2)]) rfl Tryd.underlying29 Tryd.sizeOf37 Tryd.zeroValue37 rfl rfl (fill_fact _ _ _) hL hE) ?_
      rintro _ w ⟨s41, rfl, hs41, hL, hE, hX⟩
      have hK := hL.sub (.cons _ (.cons _ (.cons _ (.refl _))))
      refine ⟨⟨hK, hE⟩, ?_⟩
      refine h_listed (listed' := #[true, true, true, true, true, true, true, true, true, true, true, true, true, true, true, true, true, true, true, true, true, true, true, true, true, true, true, false, false]) (by kernel_rfl) ?_
      refine h_new 27 rfl rfl (by kernel_rfl) rfl (r_append (ys := fcell (cutFact (fat l n), (Value.slice Al2 ((fat l n).why.take 20).length cl2))) 2 rfl Tryd.underlying29 info_fact rfl (by decide) rfl rfl hL hE rfl rfl (blk_raw (cs := #[.int .i64 (fat l n).a, .int .i64 (fat l n).b, (Value.slice Al2 ((fat l n).why.take 20).length cl2)]) (hL.get 0 rfl) rfl) (fun u hu => List.all_eq_true.1 (all3 h1l) u hu) (by omega) (by omega) (Nat.le_refl _) hE.size) ?_
      rintro _ w ⟨hL, hE, hk⟩
      obtain ⟨A6, c6, rfl⟩ := ownsRow_slice (hL.row 2 rfl)
      replace hL : Has w (.blk s41 (.cells #[.int .i64 (fat l n).a, .int .i64 (fat l n).b, (Value.slice Al2 ((fat l n).why.take 20).length cl2)] 37 (0, 0)) :: .row w0.heap.size 3 1 (Value.slice Al2 ((fat l n).why.take 20).length cl2) ((fat l n).why.take 20).length (((fat l n).why.take 20).map (Value.int .i64)) :: .row w0.heap.size 37 3 (.slice A6 (fv.length + 1) c6) (fv ++ [(cutFact (fat l n), (Value.slice Al2 ((fat l n).why.take 20).length cl2))]).length ((fv ++ [(cutFact (fat l n), (Value.slice Al2 ((fat l n).why.take 20).length cl2))]).map fcell).flatten :: (fv).map (fres 3 w0.heap.size)) := by rw [← fcells_snoc, List.length_append]; exact hL
      have hK := hL.sub (.cons _ (.cons _ (.cons _ (.refl _))))
      refine ⟨⟨hK, hE⟩, ?_⟩
      refine h_listed (listed' := #[true, true, true, true, true, true, true, true, true, true, true, true, true, true, true, true, true, true, true, true, true, true, true, true, true, true, true, true, false]) (by kernel_rfl) ?_
      refine h_t 28 rfl rfl (by kernel_rfl) (fun _ _ _ h => h) ⟨hK, hE⟩ rfl (fun W hW => r_assign rfl) ?_
      refine h_listed (listed' := #[true, true, true, true, true, true, true, true, true, true, true, true, true, true, true, true, true, true, true, true, true, true, true, true, true, true, true, true, true]) (by kernel_rfl) ?_
      refine h_done (by kernel_rfl) ?_
      -- region 4
      refine c_ops ?_
      refine l_val rfl rfl rfl (r_move rfl) ?_
      refine l_val rfl rfl rfl (r_add rfl rfl rfl) ?_
      refine l_val rfl rfl rfl (r_assign rfl) ?_
      refine l_nil ?_
      refine ⟨30 - (n + 1), by omega, rfl, n + 1, (.slice A6 (fv.length + 1) c6), fv ++ [(cutFact (fat l n), (Value.slice Al2 ((fat l n).why.take 20).length cl2))], by omega, by omega, rfl, by show Value.int .i64 (IntKind.i64.wrap ((n : Int) + 1)) = _; rw [wrap_succ hnn hlm0], rfl, by rw [take_snoc (fat_nat hnn), List.map_append, List.map_append, ← hfv]; rfl, ?_, hE⟩
      rw [List.map_append (f := fres 3 w0.heap.size)]
      exact Has.perm (copy_perm _ _ _) hL.tail
    · -- False
      have hr12 := hb
      replace hb := of_decide_eq_false hb
      have hend : (l.take n).map cutFact = fewF l := by unfold fewF; rw [show n = 30 by omega]
      refine c_exit ?_
      refine c_seq ?_
      -- region 6
      refine c_ops ?_
      refine l_val rfl rfl rfl (r_move rfl) ?_
      refine l_val rfl rfl rfl (r_assign rfl) ?_
      refine l_nil ?_
      refine c_ret ?_
      obtain ⟨A9, c9, rfl⟩ := ownsRow_slice (hL.row 0 rfl)
      have hns := (facts_at (hL.sub (.cons _ (.refl _))) (fun x hx => List.mem_map.2 ⟨x, hx, rfl⟩) (hL.row 0 rfl) rfl).1
      rw [hfv, hend] at hns
      exact ⟨A9, c9, congrArg (fun n => Ending.returned (.slice A9 n c9)) (show fv.length = (fewF l).length by rw [← hend, ← hfv, List.length_map]), hns, hE⟩
  · -- slot 9 is False
    have hr9 := hb
    replace hb := of_decide_eq_false hb
    have hend : (l.take n).map cutFact = fewF l := by unfold fewF; rw [List.take_of_length_le (by omega), List.take_of_length_le (by omega)]
    refine l_not rfl rfl rfl ?_
    refine l_not rfl rfl rfl ?_
    refine l_val rfl rfl rfl (r_pick rfl rfl) ?_
    refine l_nil ?_
    refine c_no rfl ?_
    refine c_exit ?_
    refine c_seq ?_
    -- region 6
    refine c_ops ?_
    refine l_val rfl rfl rfl (r_move rfl) ?_
    refine l_val rfl rfl rfl (r_assign rfl) ?_
    refine l_nil ?_
    refine c_ret ?_
    obtain ⟨A9, c9, rfl⟩ := ownsRow_slice (hL.row 0 rfl)
    have hns := (facts_at (hL.sub (.cons _ (.refl _))) (fun x hx => List.mem_map.2 ⟨x, hx, rfl⟩) (hL.row 0 rfl) rfl).1
    rw [hfv, hend] at hns
    exact ⟨A9, c9, congrArg (fun n => Ending.returned (.slice A9 n c9)) (show fv.length = (fewF l).length by rw [← hend, ← hfv, List.length_map]), hns, hE⟩
theorem made_bools (n : Nat) : madeCells #[Value.bool false] (n * 1) = ((List.range n).map fun (b : Nat) => Value.bool false).toArray := by
  apply Array.ext'
  simp [madeCells, Nat.mod_one]
theorem put_bools (n k : Nat) (hk : k < n) (f f2 : Nat → Bool) (x : Bool) (h : ∀ b, f2 b = if b = k then x else f b) : putAt ((List.range n).map fun b => Value.bool (f b)).toArray (k * 1) [.bool x] = ((List.range n).map fun b => Value.bool (f2 b)).toArray := by
  apply Array.ext'
  simp only [putAt, Nat.mul_one, Array.toList_setIfInBounds, List.toList_toArray]
  apply List.ext_getElem?
  intro i
  rw [List.getElem?_set]
  by_cases e : k = i
  · subst e
    simp [hk, h]
  · simp only [e, if_false, List.getElem?_map]
    by_cases hi : i < n
    · rw [List.getElem?_range hi]
      simp [h, Ne.symm e]
    · rw [List.getElem?_eq_none (by simp; omega)]
      rfl

/-- Rows of answers, as Go's memory holds them. -/
structure RowsAt (w : World) (A : Option Addr) (g : List GNode) : Prop where
  is : 0 < g.length → A.isSome = true
  at_ : ∀ a : Nat, a < g.length → ∃ rb : Nat, w.cell? ((adr A).add (a * 1)) = some (.slice (some ⟨rb, 0, none⟩) g.length g.length) ∧ ∀ b : Nat, b < g.length → w.cell? ((⟨rb, 0, none⟩ : Addr).add (b * 1)) = some (.bool (mayX g false ((a : Int), (b : Int))))
theorem RowsAt.keep {w W : World} {A : Option Addr} {g : List GNode} (h : RowsAt w A g) (hc : Cells w W) : RowsAt W A g :=
  ⟨h.is, fun a ha => let ⟨rb, h1, h2⟩ := h.at_ a ha; ⟨rb, hc _ _ h1, fun b hb => hc _ _ (h2 b hb)⟩⟩
def rcell (n : Nat) (x : Nat × Int) : Value := .slice (some ⟨x.1, 0, none⟩) n n
def bcells (g : List GNode) (a : Int) (nb : Nat) : Array Value := ((List.range g.length).map fun (b : Nat) => Value.bool (decide (b < nb) && mayX g false (a, (b : Int)))).toArray
def rres (g : List GNode) (x : Nat × Int) : Res := .blk x.1 (.cells (bcells g x.2 g.length) 4 (0, 0))
theorem info_bool : (Tryd.prog.info? 4).map (fun i => (i.zero, i.size, i.bytes)) = some (some (.bool false), 1, 1) := by kernel_rfl
theorem info_bools : (Tryd.prog.info? 55).map (fun i => (i.zero, i.size, i.bytes)) = some (some (.slice none 0 0), 1, 24) := by kernel_rfl
theorem fill_slice1 (v : Value) : Instr.fill (fun i => some (i * 1, 1)) ((List.range (1 * 1)).map ((Value.slice none 0 0).cells[· % (Value.slice none 0 0).cells.size]!)).toArray [(0, .slice none 0 0)] = some #[.slice none 0 0] := by rfl
theorem bcells0 (g : List GNode) (a : Int) : madeCells #[Value.bool false] (g.length * 1) = bcells g a 0 := by
  rw [made_bools]
  unfold bcells
  congr 1
theorem bcells_put (g : List GNode) (a : Int) (nb : Nat) (h : nb < g.length) : putAt (bcells g a nb) (nb * 1) [.bool (mayX g false (a, (nb : Int)))] = bcells g a (nb + 1) := by
  unfold bcells
  refine put_bools g.length nb h (fun b => decide (b < nb) && mayX g false (a, (b : Int))) (fun b => decide (b < nb + 1) && mayX g false (a, (b : Int))) _ (fun b => ?_)
  by_cases e : b = nb
  · subst e
    simp
  · rw [if_neg e, show decide (b < nb + 1) = decide (b < nb) from decide_eq_decide.2 (by omega)]
theorem rows_at {w : World} {L : List Res} {g : List GNode} {B e n c : Nat} {A : Option Addr} {rv : List (Nat × Int)} (h : Has w L) (hs : ∀ x ∈ rv, rres g x ∈ L) (hr : w.ownsRow B e 1 (.slice A n c) rv.length (rv.map (rcell g.length))) (hl : rv.length = g.length) (hx : ∀ (i : Nat) x, rv[i]? = some x → x.2 = (i : Int)) : RowsAt w A g := by
  have hE : Els w 1 (fun (_ : World) (x : Nat × Int) cs => cs = [rcell g.length x]) rv (rv.map fun x => [rcell g.length x]) := by
    refine ⟨by simp, fun i x cs h1 h2 => ?_⟩
    rw [List.getElem?_map, h1] at h2
    cases h2
    exact ⟨rfl, rfl⟩
  have hfl : (rv.map fun x => [rcell g.length x]).flatten = rv.map (rcell g.length) := by
    clear hE hx hl hr hs
    induction rv with
    | nil => rfl
    | cons x r ih => simp [ih]
  rw [← hfl] at hr
  obtain ⟨A', c', hv, hsl, _⟩ := Sl.ofRow hr hE rfl
  injection hv with h1 h2 h3
  subst h1; subst h2; subst h3
  refine ⟨fun hp => hsl.is (by omega), fun a ha => ?_⟩
  have hal : a < rv.length := by omega
  obtain ⟨cs, _, hcs, hcell⟩ := hsl.at_ a _ (List.getElem?_eq_getElem hal)
  have h2 := hx a _ (List.getElem?_eq_getElem hal)
  refine ⟨(rv[a]'hal).1, ?_, fun b hb => ?_⟩
  · have := hcell 0 _ (by rw [hcs]; rfl)
    rw [Nat.add_zero] at this
    exact this
  · have hb1 : w.heap[(rv[a]'hal).1]? = some (.cells (bcells g (rv[a]'hal).2 g.length) 4 (0, 0)) := h.mem _ (hs _ (List.getElem_mem hal))
    rw [blk_add, blk_cell hb1, h2, Nat.zero_add, Nat.mul_one]
    unfold bcells
    simp [hb]
theorem all_perm {α : Type} (r a b c : α) (T : List α) : (r :: a :: b :: c :: T).Perm (a :: b :: c :: (T ++ [r])) :=
  (List.perm_append_comm (l₁ := [r]) (l₂ := a :: b :: c :: T))
set_option maxHeartbeats 20000000 in
theorem All_calls (w0 : World) (Ag : Option Addr) (cg : Nat) (g : List GNode) (hg : Nodes w0 Ag cg g) (hok : GraphOk g) (hn : g.length ≤ 16) (hk0 : KeysLaid w0) :
    Calls Tryd.prog 23 [.slice Ag g.length cg, .bool false].toArray w0 fun en w' => ∃ A c, en = .returned (.tuple #[.slice A g.length c, .int .i64 0]) ∧ RowsAt w' A g ∧ Ext0 w0 w' := by
  have hE : Ext0 w0 w0 := Ext.refl _ _
  have hL : Has w0 [] := trivial
  have hgm := hg.max
  refine calls [4, 5] Tryd.func23 rfl rfl rfl rfl ?_
  refine c_seq ?_
  -- region 0
  refine c_ops ?_
  refine l_val rfl rfl rfl (r_assign rfl) ?_
  refine l_val rfl rfl rfl (r_assign rfl) ?_
  refine l_nil ?_
  refine c_seq ?_
  refine c_seq ?_
  -- region 1
  refine c_ops ?_
  refine l_val rfl rfl rfl (r_move rfl) ?_
  refine l_by rfl rfl rfl (r_call rfl rfl Tryd.func25 rfl rfl) (Check_calls _ Ag cg g (hg.keep RNode.kept (Ext0.cells hE)) hok.fits (hk0.keep (Ext0.cells hE))) ?_   -- sub.go:137 slot 16 := (call {callee=(value (func 25)), args=[(tmp 15)], argTypes=[22]})
  rintro _ w ⟨hen, hX⟩
  rw [check_ok hok (by omega)] at hen
  subst hen
  replace hE := hE.trans hX
  refine ⟨_, rfl, ?_⟩
  refine l_val rfl rfl rfl (r_assign rfl) ?_
  refine l_nil ?_
  refine c_seq ?_
  -- region 2
  refine c_ops ?_
  refine l_val rfl rfl rfl (r_move rfl) ?_
  refine l_val rfl rfl rfl (r_neq rfl rfl rfl) ?_
  refine l_know (t := 18) (v := .bool false) rfl ?_
  refine l_nil ?_
  refine c_no rfl ?_
  refine c_skip ?_
  refine c_seq ?_
  -- region 4
  refine c_ops ?_
  refine l_val rfl rfl rfl (r_move rfl) ?_
  refine l_val rfl rfl rfl (r_move rfl) ?_
  refine l_by rfl rfl rfl (r_call rfl rfl Tryd.func42 rfl rfl) (of_calls _ Ag cg g (hg.keep RNode.kept (Ext0.cells hE)) hok (by omega) (hk0.keep (Ext0.cells hE)) false none 0 [] (Sl.nil _ _ _ _ _) (fun k hk => by simp at hk)) ?_   -- sub.go:140 slot 23 := (call {callee=(value (func 42)), args=[(tmp 21), (tmp 22), (const (slice none 0 0))], argTypes=[22, 4, 30]})
  rintro _ w ⟨xb, mb, rfl, hxb, hmb, hS, hX⟩
  have hm0 := Nat.le_trans hE.size hmb
  replace hL := hS
  replace hE := hE.trans hX
  refine ⟨_, rfl, ?_⟩
  refine l_val rfl rfl rfl (r_move rfl) ?_
  refine l_val rfl rfl rfl (r_extract rfl rfl rfl) ?_
  refine l_val rfl rfl rfl (r_extract rfl rfl rfl) ?_
  refine l_val rfl rfl rfl (r_assign rfl) ?_
  refine l_val rfl rfl rfl (r_assign rfl) ?_
  refine l_nil ?_
  refine c_seq ?_
  -- region 5
  refine c_ops ?_
  refine l_val rfl rfl rfl (r_assign rfl) ?_
  refine l_nil ?_
  refine c_seq ?_
  refine c_seq ?_
  -- region 6
  refine c_ops ?_
  refine l_val rfl rfl rfl (r_move rfl) ?_
  refine l_val rfl rfl rfl (r_len rfl Tryd.underlying22 rfl) ?_
  refine l_val rfl rfl rfl (r_move rfl) ?_
  refine l_nil ?_
  refine c_block ?_
  -- loop 0: slots that it writes and that are read in it ahead of that: [28, 9]
  refine c_loop0 (fun m1 e w => (e 0 = .slice Ag g.length cg ∧ e 4 = .slice none 0 0 ∧ e 7 = .pointer (some ⟨xb, 0, none⟩) ∧ e 27 = .int .i64 (g.length : Int)) ∧ (∃ (na : Nat) (v : Value) (fs : List (Int × Int)), na ≤ g.length ∧ m1 = g.length - na ∧ e 28 = .int .i64 na ∧ e 9 = v ∧ (∀ p ∈ fs, InG g.length p) ∧ (∀ a b : Nat, a < na → b < g.length → ((a : Int), (b : Int)) ∈ fs) ∧ fs.length ≤ na * 16 ∧ Has w (.row w0.heap.size 62 2 v (fs).length ((fs).map cells2).flatten :: .blk xb (solB (.slice Ag g.length cg) false mb) :: .blk mb (mapObj enc2 (Value.int .i64) []) :: []) ∧ Ext0 w0 w)) g.length ?_ ?_
  · exact ⟨⟨rfl, rfl, rfl, rfl⟩, 0, .slice none 0 0, [], Nat.zero_le _, rfl, rfl, rfl, fun p h => by simp at h, fun a b h => absurd h (Nat.not_lt_zero _), Nat.zero_le _, hL.nilRow _ _ _, hE⟩
  rintro m1 e w ⟨⟨hq0, hq4, hq7, hq27⟩, hI⟩
  refine c_know (t := 0) (by exact hq0) ?_
  refine c_know (t := 4) (by exact hq4) ?_
  refine c_know (t := 7) (by exact hq7) ?_
  refine c_know (t := 27) (by exact hq27) ?_
  clear hq0 hq4 hq7 hq27
  obtain ⟨na, v, fs, hnl, hmn, h28, h9, hfin, hall, hfl, hL, hE⟩ := hI
  refine c_know (t := 28) (by exact h28) ?_
  refine c_know (t := 9) (by exact h9) ?_
  refine c_seq ?_
  -- region 7
  refine c_ops ?_
  refine l_val rfl rfl rfl (r_lss rfl rfl rfl) ?_
  refine l_nil ?_
  refine c_seq ?_
  refine c_cond rfl (fun hb => ?_) (fun hb => ?_)
  · -- True
    have hr29 := hb
    replace hb := of_decide_eq_true hb
    have hnalt : na < g.length := by omega
    refine c_skip ?_
    refine c_seq ?_
    refine c_block ?_
    refine c_seq ?_
    -- region 8
    refine c_ops ?_
    refine l_val rfl rfl rfl (r_move rfl) ?_
    refine l_val rfl rfl rfl (r_assign rfl) ?_
    refine l_nil ?_
    refine c_seq ?_
    -- region 9
    refine c_ops ?_
    refine l_val rfl rfl rfl (r_move rfl) ?_
    refine l_val rfl rfl rfl (r_len rfl Tryd.underlying22 rfl) ?_
    refine l_val rfl rfl rfl (r_move rfl) ?_
    refine l_nil ?_
    refine c_block ?_
    -- loop 1: slots that it writes and that are read in it ahead of that: [33, 9]
    refine c_loop0 (fun m1 e w => (e 0 = .slice Ag g.length cg ∧ e 4 = .slice none 0 0 ∧ e 7 = .pointer (some ⟨xb, 0, none⟩) ∧ e 27 = .int .i64 (g.length : Int) ∧ e 28 = .int .i64 (na : Int) ∧ e 10 = .int .i64 (na : Int) ∧ e 32 = .int .i64 (g.length : Int)) ∧ (∃ (nb : Nat) (v : Value) (fs : List (Int × Int)), nb ≤ g.length ∧ m1 = g.length - nb ∧ e 33 = .int .i64 nb ∧ e 9 = v ∧ (∀ p ∈ fs, InG g.length p) ∧ (∀ a b : Nat, a < na → b < g.length → ((a : Int), (b : Int)) ∈ fs) ∧ (∀ b : Nat, b < nb → ((na : Int), (b : Int)) ∈ fs) ∧ fs.length ≤ na * 16 + nb ∧ Has w (.row w0.heap.size 62 2 v (fs).length ((fs).map cells2).flatten :: .blk xb (solB (.slice Ag g.length cg) false mb) :: .blk mb (mapObj enc2 (Value.int .i64) []) :: []) ∧ Ext0 w0 w)) g.length ?_ ?_
    · exact ⟨⟨rfl, rfl, rfl, rfl, rfl, rfl, rfl⟩, 0, v, fs, Nat.zero_le _, rfl, rfl, rfl, hfin, hall, fun b h => absurd h (Nat.not_lt_zero _), hfl, hL, hE⟩
    rintro m1 e w ⟨⟨hq0, hq4, hq7, hq27, hq28, hq10, hq32⟩, hI⟩
    refine c_know (t := 0) (by exact hq0) ?_
    refine c_know (t := 4) (by exact hq4) ?_
    refine c_know (t := 7) (by exact hq7) ?_
    refine c_know (t := 27) (by exact hq27) ?_
    refine c_know (t := 28) (by exact hq28) ?_
    refine c_know (t := 10) (by exact hq10) ?_
    refine c_know (t := 32) (by exact hq32) ?_
    clear hq0 hq4 hq7 hq27 hq28 hq10 hq32
    obtain ⟨nb, v2, fs2, hnbl, hmb2, h33, h9, hfin2, hall2, hrow2, hfl2, hL, hE⟩ := hI
    refine c_know (t := 33) (by exact h33) ?_
    refine c_know (t := 9) (by exact h9) ?_
    refine c_seq ?_
    -- region 10
    refine c_ops ?_
    refine l_val rfl rfl rfl (r_lss rfl rfl rfl) ?_
    refine l_nil ?_
    refine c_seq ?_
    refine c_cond rfl (fun hb => ?_) (fun hb => ?_)
    · -- True
      have hr34 := hb
      replace hb := of_decide_eq_true hb
      have hnblt : nb < g.length := by omega
      refine c_skip ?_
      refine c_seq ?_
      refine c_block ?_
      refine c_seq ?_
      -- region 11
      refine c_ops ?_
      refine l_val rfl rfl rfl (r_move rfl) ?_
      refine l_val rfl rfl rfl (r_assign rfl) ?_
      refine l_nil ?_
      -- region 12
      refine c_ops ?_
      refine l_val rfl rfl rfl (r_move rfl) ?_
      refine l_val rfl rfl rfl (r_move rfl) ?_
      refine l_val rfl rfl rfl (r_move rfl) ?_
      refine l_val rfl rfl rfl (r_build rfl rfl (built_pair _ _)) ?_   -- sub.go:144 slot 39 := (build 62 [(0, (tmp 37)), (1, (tmp 38))])
      refine l_new rfl rfl rfl (n_slice (cells := #[.int .i64 (na : Int), .int .i64 (nb : Int)]) rfl Tryd.underlying85 Tryd.sizeOf62 Tryd.zeroValue62 rfl rfl (fill_pair _ _) hL hE) ?_
      rintro _ w ⟨s40, rfl, hs40, hL, hE, hX⟩
      refine l_new rfl rfl rfl (r_append (ys := cells2 ((na : Int), (nb : Int))) 1 rfl Tryd.underlying85 info_pair rfl (by decide) rfl rfl hL hE rfl rfl (blk_raw (cs := #[.int .i64 (na : Int), .int .i64 (nb : Int)]) (hL.get 0 rfl) rfl) (fun u hu => by simp [cells2] at hu; rcases hu with rfl | rfl <;> rfl) (by omega) (by omega) (Nat.le_refl _) hE.size) ?_
      rintro _ w ⟨hL, hE, hk⟩
      obtain ⟨A4, c4, rfl⟩ := ownsRow_slice (hL.row 1 rfl)
      replace hL : Has w (.blk s40 (.cells #[.int .i64 (na : Int), .int .i64 (nb : Int)] 62 (0, 0)) :: .row w0.heap.size 62 2 (.slice A4 (fs2.length + 1) c4) (fs2 ++ [((na : Int), (nb : Int))]).length ((fs2 ++ [((na : Int), (nb : Int))]).map cells2).flatten :: .blk xb (solB (.slice Ag g.length cg) false mb) :: .blk mb (mapObj enc2 (Value.int .i64) []) :: []) := by rw [← pairs_snoc, List.length_append]; exact hL
      refine l_val rfl rfl rfl (r_assign rfl) ?_
      refine l_nil ?_
      -- region 13
      refine c_ops ?_
      refine l_val rfl rfl rfl (r_add rfl rfl rfl) ?_
      refine l_val rfl rfl rfl (r_move rfl) ?_
      refine l_nil ?_
      refine ⟨g.length - (nb + 1), by omega, ⟨rfl, rfl, rfl, rfl, rfl, rfl, rfl⟩, nb + 1, (.slice A4 (fs2.length + 1) c4), fs2 ++ [((na : Int), (nb : Int))], by omega, rfl, by show Value.int .i64 (IntKind.i64.wrap ((nb : Int) + 1)) = _; rw [wrap_succ hnblt hgm], rfl, fun p hp => ?_, fun a b ha hb => List.mem_append_left _ (hall2 a b ha hb), fun b hb => ?_, by simp; omega, hL.tail, hE⟩
      · rcases List.mem_append.1 hp with hp | hp
        · exact hfin2 p hp
        · rw [List.mem_singleton] at hp
          subst hp
          exact ⟨by simp, by simp; omega, by simp, by simp; omega⟩
      · rcases Nat.lt_or_eq_of_le (Nat.le_of_lt_succ hb) with h | rfl
        · exact List.mem_append_left _ (hrow2 b h)
        · exact List.mem_append_right _ (List.mem_singleton.2 rfl)
    · -- False
      have hr34 := hb
      replace hb := of_decide_eq_false hb
      obtain rfl : nb = g.length := by omega
      refine c_exit ?_
      -- region 14
      refine c_ops ?_
      refine l_val rfl rfl rfl (r_add rfl rfl rfl) ?_
      refine l_val rfl rfl rfl (r_move rfl) ?_
      refine l_nil ?_
      exact ⟨g.length - (na + 1), by omega, ⟨rfl, rfl, rfl, rfl⟩, na + 1, v2, fs2, by omega, rfl, by show Value.int .i64 (IntKind.i64.wrap ((na : Int) + 1)) = _; rw [wrap_succ hnalt hgm], rfl, hfin2, fun a b ha hb => (Nat.lt_or_eq_of_le (Nat.le_of_lt_succ ha)).elim (fun h => hall2 a b h hb) (fun h => h ▸ hrow2 b hb), by omega, hL, hE⟩
  · -- False
    have hr29 := hb
    replace hb := of_decide_eq_false hb
    obtain rfl : na = g.length := by omega
    obtain ⟨A9, c9, rfl⟩ := ownsRow_slice (hL.row 0 rfl)
    refine c_exit ?_
    refine c_seq ?_
    -- region 15
    refine c_ops ?_
    refine l_val rfl rfl rfl (r_move rfl) ?_
    refine l_val rfl rfl rfl (r_move rfl) ?_
    refine l_by rfl rfl rfl (r_call rfl rfl Tryd.func43 rfl rfl) (solve_calls _ xb mb Ag cg g (hg.keep RNode.kept (Ext0.cells hE)) hok (by omega) false [] Inv.nil A9 c9 fs (Sl.pairs_at (hL.row 0 rfl)) hfin (Has.right (L1 := [_]) hL)) ?_   -- sub.go:147 slot 46 := (call {callee=(value (func 43)), args=[(tmp 44), (tmp 45)], argTypes=[82, 85]})
    rintro _ w ⟨m', rfl, hsol, hkn, hX, hY⟩
    replace hL := (Has.sol [_] hL hX hY).tail
    replace hE := ext_own hE hX hm0
    refine ⟨_, rfl, ?_⟩
    refine l_nil ?_
    refine c_fresh (fun e => e 0 = .slice Ag g.length cg ∧ e 4 = .slice none 0 0 ∧ e 7 = .pointer (some ⟨xb, 0, none⟩)) ⟨rfl, rfl, rfl⟩ ?_
    rintro e ⟨hq0, hq4, hq7⟩
    refine c_know (t := 0) (by exact hq0) ?_
    refine c_know (t := 4) (by exact hq4) ?_
    refine c_know (t := 7) (by exact hq7) ?_
    clear hq0 hq4 hq7
    refine c_seq ?_
    refine c_seq ?_
    -- region 16
    refine c_ops ?_
    refine l_val rfl rfl rfl (r_move rfl) ?_
    refine l_val rfl rfl rfl (r_len rfl Tryd.underlying22 rfl) ?_
    refine l_val rfl rfl rfl (r_move rfl) ?_
    refine l_nil ?_
    refine c_block ?_
    -- loop 2: slots that it writes and that are read in it ahead of that: [49, 4]
    refine c_loop0 (fun m1 e w => (e 0 = .slice Ag g.length cg ∧ e 7 = .pointer (some ⟨xb, 0, none⟩) ∧ e 48 = .int .i64 (g.length : Int)) ∧ (∃ (na : Nat) (v : Value) (rv : List (Nat × Int)), na ≤ g.length ∧ m1 = g.length - na ∧ e 49 = .int .i64 na ∧ e 4 = v ∧ rv.length = na ∧ (∀ (i : Nat) x, rv[i]? = some x → x.2 = (i : Int)) ∧ Has w (.row w0.heap.size 55 1 v (rv).length ((rv).map (rcell g.length)) :: .blk xb (solB (.slice Ag g.length cg) false mb) :: .blk mb (mapObj enc2 (Value.int .i64) m') :: (rv).map (rres g)) ∧ Ext0 w0 w)) g.length ?_ ?_
    · exact ⟨⟨rfl, rfl, rfl⟩, 0, .slice none 0 0, [], Nat.zero_le _, rfl, rfl, rfl, rfl, fun i x h => by simp at h, hL.nilRow _ _ _, hE⟩
    rintro m1 e w ⟨⟨hq0, hq7, hq48⟩, hI⟩
    refine c_know (t := 0) (by exact hq0) ?_
    refine c_know (t := 7) (by exact hq7) ?_
    refine c_know (t := 48) (by exact hq48) ?_
    clear hq0 hq7 hq48
    obtain ⟨na, v, rv, hnl, hmn, h49, h4, hrl, hrx, hL, hE⟩ := hI
    refine c_know (t := 49) (by exact h49) ?_
    refine c_know (t := 4) (by exact h4) ?_
    refine c_seq ?_
    -- region 17
    refine c_ops ?_
    refine l_val rfl rfl rfl (r_lss rfl rfl rfl) ?_
    refine l_nil ?_
    refine c_seq ?_
    refine c_cond rfl (fun hb => ?_) (fun hb => ?_)
    · -- True
      have hr50 := hb
      replace hb := of_decide_eq_true hb
      have hnalt : na < g.length := by omega
      refine c_skip ?_
      refine c_seq ?_
      refine c_block ?_
      refine c_seq ?_
      -- region 18
      refine c_ops ?_
      refine l_val rfl rfl rfl (r_move rfl) ?_
      refine l_val rfl rfl rfl (r_assign rfl) ?_
      refine l_nil ?_
      refine c_seq ?_
      -- region 19
      refine c_ops ?_
      refine l_val rfl rfl rfl (r_move rfl) ?_
      refine l_val rfl rfl rfl (r_len rfl Tryd.underlying22 rfl) ?_
      refine l_new rfl rfl rfl (n_make rfl Tryd.underlying55 info_bool rfl rfl hL hE (by omega) (by omega)) ?_
      rintro _ w ⟨s54, rfl, hs54, hL, hE, hX⟩
      replace hL : Has w (.blk s54 (.cells (bcells g (na : Int) 0) 4 (0, 0)) :: .row w0.heap.size 55 1 v (rv).length ((rv).map (rcell g.length)) :: .blk xb (solB (.slice Ag g.length cg) false mb) :: .blk mb (mapObj enc2 (Value.int .i64) m') :: (rv).map (rres g)) := by rw [← bcells0]; exact hL
      refine l_val rfl rfl rfl (r_assign rfl) ?_
      refine l_nil ?_
      refine c_seq ?_
      refine c_seq ?_
      -- region 20
      refine c_ops ?_
      refine l_val rfl rfl rfl (r_move rfl) ?_
      refine l_val rfl rfl rfl (r_len rfl Tryd.underlying22 rfl) ?_
      refine l_val rfl rfl rfl (r_move rfl) ?_
      refine l_nil ?_
      refine c_block ?_
      -- loop 3: slots that it writes and that are read in it ahead of that: [57]
      refine c_loop0 (fun m1 e w => (e 0 = .slice Ag g.length cg ∧ e 4 = v ∧ e 7 = .pointer (some ⟨xb, 0, none⟩) ∧ e 48 = .int .i64 (g.length : Int) ∧ e 49 = .int .i64 (na : Int) ∧ e 12 = .int .i64 (na : Int) ∧ e 13 = .slice (some ⟨s54, 0, none⟩) g.length g.length ∧ e 56 = .int .i64 (g.length : Int)) ∧ (∃ nb : Nat, nb ≤ g.length ∧ m1 = g.length - nb ∧ e 57 = .int .i64 nb ∧ Has w (.blk s54 (.cells (bcells g (na : Int) nb) 4 (0, 0)) :: .row w0.heap.size 55 1 v (rv).length ((rv).map (rcell g.length)) :: .blk xb (solB (.slice Ag g.length cg) false mb) :: .blk mb (mapObj enc2 (Value.int .i64) m') :: (rv).map (rres g)) ∧ Ext0 w0 w)) g.length ?_ ?_
      · exact ⟨⟨rfl, rfl, rfl, rfl, rfl, rfl, rfl, rfl⟩, 0, Nat.zero_le _, rfl, rfl, hL, hE⟩
      rintro m1 e w ⟨⟨hq0, hq4, hq7, hq48, hq49, hq12, hq13, hq56⟩, hI⟩
      refine c_know (t := 0) (by exact hq0) ?_
      refine c_know (t := 4) (by exact hq4) ?_
      refine c_know (t := 7) (by exact hq7) ?_
      refine c_know (t := 48) (by exact hq48) ?_
      refine c_know (t := 49) (by exact hq49) ?_
      refine c_know (t := 12) (by exact hq12) ?_
      refine c_know (t := 13) (by exact hq13) ?_
      refine c_know (t := 56) (by exact hq56) ?_
      clear hq0 hq4 hq7 hq48 hq49 hq12 hq13 hq56
      obtain ⟨nb, hnbl, hmb2, h57, hL, hE⟩ := hI
      refine c_know (t := 57) (by exact h57) ?_
      refine c_seq ?_
      -- region 21
      refine c_ops ?_
      refine l_val rfl rfl rfl (r_lss rfl rfl rfl) ?_
      refine l_nil ?_
      refine c_seq ?_
      refine c_cond rfl (fun hb => ?_) (fun hb => ?_)
      · -- True
        have hr58 := hb
        replace hb := of_decide_eq_true hb
        have hnblt : nb < g.length := by omega
        refine c_skip ?_
        refine c_seq ?_
        refine c_block ?_
        refine c_seq ?_
        -- region 22
        refine c_ops ?_
        refine l_val rfl rfl rfl (r_move rfl) ?_
        refine l_val rfl rfl rfl (r_assign rfl) ?_
        refine l_nil ?_
        -- region 23
        refine c_ops ?_
        refine l_val rfl rfl rfl (r_move rfl) ?_
        refine l_val rfl rfl rfl (r_move rfl) ?_
        refine l_val rfl rfl rfl (r_move rfl) ?_
        refine l_val rfl rfl rfl (r_nilCheck rfl rfl) ?_
        refine l_val rfl rfl rfl (r_fieldAddr (n := 0) rfl Tryd.underlying89 rfl Tryd.sizeOf87 rfl) ?_
        refine l_val rfl rfl rfl (r_load_blk rfl Tryd.isAgg87 rfl (hL.get 2 rfl) rfl) ?_
        refine l_val rfl rfl rfl (r_move rfl) ?_
        refine l_val rfl rfl rfl (r_move rfl) ?_
        refine l_val rfl rfl rfl (r_build rfl rfl (built_pair _ _)) ?_   -- sub.go:151 slot 68 := (build 62 [(0, (tmp 66)), (1, (tmp 67))])
        refine l_val rfl rfl rfl (r_lookup_int (k := ((na : Int), (nb : Int))) rfl Tryd.underlying87 key_pair Tryd.zeroValue3 rfl rfl (hL.get 3 rfl)) ?_
        refine l_val rfl rfl rfl (r_gtr rfl rfl rfl) ?_
        refine l_know (t := 70) (v := .bool (mayX g false ((na : Int), (nb : Int)))) (congrArg Value.bool (fits_get hsol hok (hkn _ (hall na nb hnalt hnblt)))) ?_
        refine l_val rfl rfl rfl (r_indexAddr_row (i := nb) rfl Tryd.underlying55 Tryd.sizeOf4 rfl rfl hnblt) ?_
        refine l_new_do rfl rfl (r_store (off := nb * 1) (n := 1) 0 rfl Tryd.sizeOf4 rfl hL hE rfl rfl rfl (Nat.ble_eq_true_of_le (by simp [bcells]; omega)) (fun h => absurd h (Nat.not_lt.2 hs54))) ?_   -- sub.go:151 slot None := (store 4 (tmp 71) (tmp 70))
        rintro w ⟨hL, hE, hz, hk⟩
        refine l_nil ?_
        -- region 24
        refine c_ops ?_
        replace hL : Has w (.blk s54 (.cells (bcells g (na : Int) (nb + 1)) 4 (0, 0)) :: .row w0.heap.size 55 1 v (rv).length ((rv).map (rcell g.length)) :: .blk xb (solB (.slice Ag g.length cg) false mb) :: .blk mb (mapObj enc2 (Value.int .i64) m') :: (rv).map (rres g)) := by rw [← bcells_put g na nb hnblt]; exact hL
        refine l_val rfl rfl rfl (r_add rfl rfl rfl) ?_
        refine l_val rfl rfl rfl (r_move rfl) ?_
        refine l_nil ?_
        exact ⟨g.length - (nb + 1), by omega, ⟨rfl, rfl, rfl, rfl, rfl, rfl, rfl, rfl⟩, nb + 1, by omega, rfl, by show Value.int .i64 (IntKind.i64.wrap ((nb : Int) + 1)) = _; rw [wrap_succ hnblt hgm], hL, hE⟩
      · -- False
        have hr58 := hb
        replace hb := of_decide_eq_false hb
        obtain rfl : nb = g.length := by omega
        refine c_exit ?_
        -- region 25
        refine c_ops ?_
        refine l_val rfl rfl rfl (r_move rfl) ?_
        refine l_val rfl rfl rfl (r_move rfl) ?_
        refine l_new rfl rfl rfl (n_slice (cells := #[(Value.slice (some ⟨s54, 0, none⟩) g.length g.length)]) rfl Tryd.underlying52 Tryd.sizeOf55 Tryd.zeroValue55 rfl rfl rfl hL hE) ?_
        rintro _ w ⟨s75, rfl, hs75, hL, hE, hX⟩
        refine l_new rfl rfl rfl (r_append (ys := [(Value.slice (some ⟨s54, 0, none⟩) g.length g.length)]) 2 rfl Tryd.underlying52 info_bools rfl (by decide) rfl rfl hL hE rfl rfl (blk_raw (cs := #[(Value.slice (some ⟨s54, 0, none⟩) g.length g.length)]) (hL.get 0 rfl) rfl) (fun u hu => by rw [List.mem_singleton] at hu; rw [hu]; rfl) (by omega) (by omega) (Nat.le_refl _) hE.size) ?_
        rintro _ w ⟨hL, hE, hk⟩
        obtain ⟨A6, c6, rfl⟩ := ownsRow_slice (hL.row 2 rfl)
        replace hL : Has w (.blk s75 (.cells #[(Value.slice (some ⟨s54, 0, none⟩) g.length g.length)] 55 (0, 0)) :: .blk s54 (.cells (bcells g (na : Int) g.length) 4 (0, 0)) :: .row w0.heap.size 55 1 (.slice A6 (rv.length + 1) c6) (rv ++ [(s54, (na : Int))]).length ((rv ++ [(s54, (na : Int))]).map (rcell g.length)) :: .blk xb (solB (.slice Ag g.length cg) false mb) :: .blk mb (mapObj enc2 (Value.int .i64) m') :: (rv).map (rres g)) := by rw [List.map_append (f := rcell g.length), List.length_append]; exact hL
        refine l_val rfl rfl rfl (r_assign rfl) ?_
        refine l_nil ?_
        -- region 26
        refine c_ops ?_
        refine l_val rfl rfl rfl (r_add rfl rfl rfl) ?_
        refine l_val rfl rfl rfl (r_move rfl) ?_
        refine l_nil ?_
        refine ⟨g.length - (na + 1), by omega, ⟨rfl, rfl, rfl⟩, na + 1, (.slice A6 (rv.length + 1) c6), rv ++ [(s54, (na : Int))], by omega, rfl, by show Value.int .i64 (IntKind.i64.wrap ((na : Int) + 1)) = _; rw [wrap_succ hnalt hgm], rfl, by simp [hrl], fun i x hx => ?_, ?_, hE⟩
        · rcases Nat.lt_or_ge i rv.length with h | h
          · rw [List.getElem?_append_left h] at hx
            exact hrx i x hx
          · have hi := (List.getElem?_eq_some_iff.1 hx).1
            rw [List.length_append, List.length_singleton] at hi
            obtain rfl : i = rv.length := by omega
            rw [List.getElem?_append_right (Nat.le_refl _), Nat.sub_self] at hx
            cases hx
            rw [hrl]
        · rw [List.map_append (f := rres g)]
          exact Has.perm (all_perm _ _ _ _ _) (hL.tail)
    · -- False
      have hr50 := hb
      replace hb := of_decide_eq_false hb
      obtain rfl : na = g.length := by omega
      refine c_exit ?_
      refine c_seq ?_
      -- region 27
      refine c_ops ?_
      refine l_val rfl rfl rfl (r_move rfl) ?_
      refine l_val rfl rfl rfl (r_assign rfl) ?_
      refine l_val rfl rfl rfl (r_assign rfl) ?_
      refine l_nil ?_
      refine c_ret ?_
      obtain ⟨A9, c9, rfl⟩ := ownsRow_slice (hL.row 0 rfl)
      exact ⟨A9, c9, congrArg (fun (k : Nat) => Ending.returned (.tuple #[.slice A9 k c9, .int .i64 0])) hrl, rows_at (hL.sub (.cons _ (.cons _ (.cons _ (.refl _))))) (fun x hx => List.mem_map.2 ⟨x, hx, rfl⟩) (hL.row 0 rfl) hrl hrx, hE⟩

theorem first_two {g : List GNode} {l : List Fact} : ∀ (l' : List Fact) (k : Nat), (∃ j, (findS (fun (_ : Unit) f => (!holdsF g l f, ())) k () l').1 = some j ∧ k ≤ j ∧ j < k + l'.length) ∨ ((findS (fun (_ : Unit) f => (!holdsF g l f, ())) k () l').1 = none ∧ ∀ f ∈ l', holdsF g l f = true)
  | [], k => .inr ⟨rfl, fun f h => by simp at h⟩
  | x :: r, k => by
    cases hx : holdsF g l x with
    | false =>
      refine .inl ⟨k, ?_, Nat.le_refl _, by simp⟩
      unfold findS
      simp [hx]
    | true =>
      have hs : (findS (fun (_ : Unit) f => (!holdsF g l f, ())) k () (x :: r)) = findS (fun (_ : Unit) f => (!holdsF g l f, ())) (k + 1) () r := by
        conv => lhs; unfold findS
        simp [hx]
      rw [hs]
      rcases first_two r (k + 1) with ⟨j, h1, h2, h3⟩ | ⟨h1, h2⟩
      · exact .inl ⟨j, h1, by omega, by simp; omega⟩
      · refine .inr ⟨h1, fun f hf => ?_⟩
        rcases List.mem_cons.1 hf with rfl | hf
        · exact hx
        · exact h2 f hf
theorem first_or (g : List GNode) (l : List Fact) : (firstF g l = -1 ∧ ∀ f ∈ l, holdsF g l f = true) ∨ (0 ≤ firstF g l ∧ firstF g l < l.length) := by
  rcases first_two (g := g) (l := l) l 0 with ⟨j, h1, _, h3⟩ | ⟨h1, h2⟩
  · refine .inr ?_
    unfold firstF
    rw [h1]
    simp [idxV]
    omega
  · exact .inl ⟨by unfold firstF; rw [h1]; rfl, h2⟩
set_option maxHeartbeats 20000000 in
theorem Sound_calls (w0 : World) (hk0 : KeysLaid w0) (A : Option Addr) (c : Nat) (g : List GNode) (hg : Nodes w0 A c g) (Ap : Option Addr) (cp : Nat) (l0 : List Fact) (hl0 : FactsAt w0 Ap cp l0) :
    Calls Tryd.prog 7 [.slice A g.length c, .slice Ap l0.length cp].toArray w0 fun en w' => en = .returned (.bool true) ∧ Ext0 w0 w' := by
  have hE : Ext0 w0 w0 := Ext.refl _ _
  have hL : Has w0 [] := trivial
  refine calls [4] Tryd.func7 rfl rfl rfl rfl ?_
  refine c_seq ?_
  -- region 0
  refine c_ops ?_
  refine l_val rfl rfl rfl (r_assign rfl) ?_
  refine l_nil ?_
  refine c_seq ?_
  refine c_seq ?_
  -- region 1
  refine c_ops ?_
  refine l_by rfl rfl rfl (r_call rfl rfl Tryd.func9 rfl rfl) (works_calls _ (hk0.keep (Ext0.cells hE))) ?_   -- outright.go:50 slot 10 := (call {callee=(value (func 9)), args=[], argTypes=[]})
  rintro _ w ⟨rfl, hX⟩
  replace hE := hE.trans hX
  refine ⟨_, rfl, ?_⟩
  refine l_val rfl rfl rfl (r_not rfl rfl) ?_
  refine l_know (t := 11) (v := .bool false) rfl ?_
  refine l_nil ?_
  refine c_no rfl ?_
  refine c_skip ?_
  refine c_seq ?_
  -- region 3
  refine c_ops ?_
  refine l_val rfl rfl rfl (r_move rfl) ?_
  refine l_by rfl rfl rfl (r_call rfl rfl Tryd.func8 rfl rfl) (fine_calls _ (hk0.keep (Ext0.cells hE)) A c g (hg.keep RNode.kept (Ext0.cells hE))) ?_   -- outright.go:53 slot 13 := (call {callee=(value (func 8)), args=[(tmp 12)], argTypes=[22]})
  rintro _ w ⟨A1, c1, hen, hn, hX⟩
  obtain ⟨gg, hgg⟩ : ∃ x, x = fineF g := ⟨_, rfl⟩
  have hlen := fineF_len g
  have hfit := fineF_fits g
  have hchk := @fineF_check g
  rw [← hgg] at hen hn hlen hfit hchk
  subst hen
  replace hE := hE.trans hX
  obtain ⟨wa, hwa⟩ : ∃ x, x = w := ⟨_, rfl⟩
  rw [← hwa] at hn hE
  have hE0 := hE
  replace hE : Ext0 wa w := hwa ▸ Ext.refl _ _
  refine ⟨_, rfl, ?_⟩
  refine l_val rfl rfl rfl (r_move rfl) ?_
  refine l_by rfl rfl rfl (r_call rfl rfl Tryd.func22 rfl rfl) (few_calls _ Ap cp l0 (hl0.keep RFact.kept (Ext0.cells (hE0.trans hE)))) ?_   -- outright.go:53 slot 15 := (call {callee=(value (func 22)), args=[(tmp 14)], argTypes=[29]})
  rintro _ w ⟨A3, c3, hen2, hf3, hX⟩
  obtain ⟨l, hl⟩ : ∃ x, x = fewF l0 := ⟨_, rfl⟩
  have hl30 : (fewF l0).length ≤ 30 := by simp [fewF]; omega
  rw [← hl] at hen2 hf3 hl30
  subst hen2
  replace hE := hE.trans hX
  replace hn := hn.keep RNode.kept (Ext0.cells hE)
  obtain ⟨wb, hwb⟩ : ∃ x, x = w := ⟨_, rfl⟩
  rw [← hwb] at hn hf3 hE
  replace hE0 := hE0.trans hE
  replace hE : Ext0 wb w := hwb ▸ Ext.refl _ _
  refine ⟨_, rfl, ?_⟩
  refine l_val rfl rfl rfl (r_assign rfl) ?_
  refine l_val rfl rfl rfl (r_assign rfl) ?_
  refine l_nil ?_
  refine c_seq ?_
  -- region 4
  refine c_ops ?_
  refine l_val rfl rfl rfl (r_move rfl) ?_
  refine l_val rfl rfl rfl (r_move rfl) ?_
  refine l_by rfl rfl rfl (r_call rfl rfl Tryd.func13 rfl rfl) (First_calls _ A1 c1 gg (hn.keep RNode.kept (Ext0.cells hE)) hfit (hk0.keep (Ext0.cells (hE0.trans hE))) A3 c3 l (hf3.keep RFact.kept (Ext0.cells hE))) ?_   -- outright.go:54 slot 19 := (call {callee=(value (func 13)), args=[(tmp 17), (tmp 18)], argTypes=[22, 29]})
  rintro _ w ⟨rfl, hX⟩
  replace hE := hE.trans hX
  refine ⟨_, rfl, ?_⟩
  refine l_val rfl rfl rfl (r_move rfl) ?_
  refine l_val rfl rfl rfl (r_extract rfl rfl rfl) ?_
  refine l_val rfl rfl rfl (r_extract rfl rfl rfl) ?_
  refine l_val rfl rfl rfl (r_assign rfl) ?_
  refine l_val rfl rfl rfl (r_assign rfl) ?_
  refine l_nil ?_
  refine c_fresh (fun e => e 0 = .slice A1 gg.length c1 ∧ e 1 = .slice A3 l.length c3 ∧ e 5 = .int .i64 (if checkF gg l = 0 then firstF gg l else 0) ∧ e 6 = .int .i64 (checkF gg l)) ⟨rfl, rfl, rfl, rfl⟩ ?_
  rintro e ⟨hq0, hq1, hq5, hq6⟩
  refine c_know (t := 0) (by exact hq0) ?_
  refine c_know (t := 1) (by exact hq1) ?_
  refine c_know (t := 5) (by exact hq5) ?_
  refine c_know (t := 6) (by exact hq6) ?_
  clear hq0 hq1 hq5 hq6
  refine c_seq ?_
  refine c_seq ?_
  -- region 5
  refine c_ops ?_
  refine l_val rfl rfl rfl (r_move rfl) ?_
  refine l_val rfl rfl rfl (r_neq rfl rfl rfl) ?_
  refine l_val rfl rfl rfl (r_move rfl) ?_
  refine l_case 24 rfl (fun hb => ?_) (fun hb => ?_)
  · -- slot 24 is True
    have hr24 := hb
    replace hb := of_decide_eq_false (by simpa using hb)
    have hcne : ¬ checkF gg l = 0 := hb
    refine l_not rfl rfl rfl ?_
    refine l_not rfl rfl rfl ?_
    refine l_val rfl rfl rfl (r_pick rfl rfl) ?_
    refine l_nil ?_
    refine c_yes rfl ?_
    refine c_seq ?_
    -- region 6
    refine c_ops ?_
    refine l_val rfl rfl rfl (r_move rfl) ?_
    refine l_val rfl rfl rfl (r_neq rfl rfl rfl) ?_
    refine l_val rfl rfl rfl (r_move rfl) ?_
    refine l_case 30 rfl (fun hb => ?_) (fun hb => ?_)
    · -- slot 30 is True
      have hr30 := hb
      replace hb := of_decide_eq_false (by simpa using hb)
      have h30 : ¬ checkF gg l = 0 := hb
      refine l_not rfl rfl rfl ?_
      refine l_not rfl rfl rfl ?_
      refine l_not rfl rfl rfl ?_
      refine l_not rfl rfl rfl ?_
      refine l_not rfl rfl rfl ?_
      refine l_not rfl rfl rfl ?_
      refine l_not rfl rfl rfl ?_
      refine l_not rfl rfl rfl ?_
      refine l_val rfl rfl rfl (r_pick rfl rfl) ?_
      refine l_val rfl rfl rfl (r_assign rfl) ?_
      refine l_nil ?_
      refine c_ret ?_
      first
        | exact ⟨rfl, hE0.trans hE⟩
        | exact ⟨ret_bool rfl (decide_eq_true hfr.2), hE0.trans hE⟩
        | exact absurd hcz h30
        | exact absurd h30 hcne
        | omega
    · -- slot 30 is False
      have hr30 := hb
      replace hb := of_decide_eq_true (by simpa using hb)
      have h30 : checkF gg l = 0 := hb
      refine l_val rfl rfl rfl (r_move rfl) ?_
      refine l_val rfl rfl rfl (r_geq rfl rfl rfl) ?_
      refine l_val rfl rfl rfl (r_move rfl) ?_
      refine l_case 33 rfl (fun hb => ?_) (fun hb => ?_)
      · -- slot 33 is True
        have hr33 := hb
        replace hb := of_decide_eq_true hb
        refine l_val rfl rfl rfl (r_move rfl) ?_
        refine l_val rfl rfl rfl (r_move rfl) ?_
        refine l_val rfl rfl rfl (r_len rfl Tryd.underlying29 rfl) ?_
        refine l_val rfl rfl rfl (r_lss rfl rfl rfl) ?_
        refine l_val rfl rfl rfl (r_pick rfl rfl) ?_
        refine l_val rfl rfl rfl (r_pick rfl rfl) ?_
        refine l_val rfl rfl rfl (r_assign rfl) ?_
        refine l_nil ?_
        refine c_ret ?_
        first
          | exact ⟨rfl, hE0.trans hE⟩
          | exact ⟨ret_bool rfl (decide_eq_true hfr.2), hE0.trans hE⟩
          | exact absurd hcz h30
          | exact absurd h30 hcne
          | omega
      · -- slot 33 is False
        have hr33 := hb
        replace hb := of_decide_eq_false hb
        refine l_not rfl rfl rfl ?_
        refine l_not rfl rfl rfl ?_
        refine l_not rfl rfl rfl ?_
        refine l_not rfl rfl rfl ?_
        refine l_val rfl rfl rfl (r_pick rfl rfl) ?_
        refine l_val rfl rfl rfl (r_pick rfl rfl) ?_
        refine l_val rfl rfl rfl (r_assign rfl) ?_
        refine l_nil ?_
        refine c_ret ?_
        first
          | exact ⟨rfl, hE0.trans hE⟩
          | exact ⟨ret_bool rfl (decide_eq_true hfr.2), hE0.trans hE⟩
          | exact absurd hcz h30
          | exact absurd h30 hcne
          | omega
  · -- slot 24 is False
    have hr24 := hb
    replace hb := of_decide_eq_true (by simpa using hb)
    have hcz : checkF gg l = 0 := hb
    refine l_val rfl rfl rfl (r_move rfl) ?_
    refine l_val rfl rfl rfl (r_neq rfl rfl rfl) ?_
    refine l_val rfl rfl rfl (r_pick rfl rfl) ?_
    refine l_nil ?_
    refine c_cond rfl (fun hb => ?_) (fun hb => ?_)
    · -- True
      have hr27 := hb
      replace hb := of_decide_eq_false (by simpa using hb)
      rw [if_pos hcz] at hb
      have hfr := (first_or gg l).resolve_left (fun h => hb h.1)
      obtain ⟨fi, hfi⟩ : ∃ x, x = firstF gg l := ⟨_, rfl⟩
      rw [← hfi] at hfr
      refine c_know (t := 5) (v := .int .i64 fi) ((congrArg (Value.int .i64) (if_pos hcz)).trans (congrArg (Value.int .i64) hfi.symm)) ?_
      refine c_seq ?_
      -- region 6
      refine c_ops ?_
      refine l_val rfl rfl rfl (r_move rfl) ?_
      refine l_val rfl rfl rfl (r_neq rfl rfl rfl) ?_
      refine l_val rfl rfl rfl (r_move rfl) ?_
      refine l_case 30 rfl (fun hb => ?_) (fun hb => ?_)
      · -- slot 30 is True
        have hr30 := hb
        replace hb := of_decide_eq_false (by simpa using hb)
        have h30 : ¬ checkF gg l = 0 := hb
        refine l_not rfl rfl rfl ?_
        refine l_not rfl rfl rfl ?_
        refine l_not rfl rfl rfl ?_
        refine l_not rfl rfl rfl ?_
        refine l_not rfl rfl rfl ?_
        refine l_not rfl rfl rfl ?_
        refine l_not rfl rfl rfl ?_
        refine l_not rfl rfl rfl ?_
        refine l_val rfl rfl rfl (r_pick rfl rfl) ?_
        refine l_val rfl rfl rfl (r_assign rfl) ?_
        refine l_nil ?_
        refine c_ret ?_
        first
          | exact ⟨rfl, hE0.trans hE⟩
          | exact ⟨ret_bool rfl (decide_eq_true hfr.2), hE0.trans hE⟩
          | exact absurd hcz h30
          | exact absurd h30 hcne
          | omega
      · -- slot 30 is False
        have hr30 := hb
        replace hb := of_decide_eq_true (by simpa using hb)
        have h30 : checkF gg l = 0 := hb
        refine l_val rfl rfl rfl (r_move rfl) ?_
        refine l_val rfl rfl rfl (r_geq rfl rfl rfl) ?_
        refine l_val rfl rfl rfl (r_move rfl) ?_
        refine l_case 33 rfl (fun hb => ?_) (fun hb => ?_)
        · -- slot 33 is True
          have hr33 := hb
          replace hb := of_decide_eq_true hb
          refine l_val rfl rfl rfl (r_move rfl) ?_
          refine l_val rfl rfl rfl (r_move rfl) ?_
          refine l_val rfl rfl rfl (r_len rfl Tryd.underlying29 rfl) ?_
          refine l_val rfl rfl rfl (r_lss rfl rfl rfl) ?_
          refine l_val rfl rfl rfl (r_pick rfl rfl) ?_
          refine l_val rfl rfl rfl (r_pick rfl rfl) ?_
          refine l_val rfl rfl rfl (r_assign rfl) ?_
          refine l_nil ?_
          refine c_ret ?_
          first
            | exact ⟨rfl, hE0.trans hE⟩
            | exact ⟨ret_bool rfl (decide_eq_true hfr.2), hE0.trans hE⟩
            | exact absurd hcz h30
            | exact absurd h30 hcne
            | omega
        · -- slot 33 is False
          have hr33 := hb
          replace hb := of_decide_eq_false hb
          refine l_not rfl rfl rfl ?_
          refine l_not rfl rfl rfl ?_
          refine l_not rfl rfl rfl ?_
          refine l_not rfl rfl rfl ?_
          refine l_val rfl rfl rfl (r_pick rfl rfl) ?_
          refine l_val rfl rfl rfl (r_pick rfl rfl) ?_
          refine l_val rfl rfl rfl (r_assign rfl) ?_
          refine l_nil ?_
          refine c_ret ?_
          first
            | exact ⟨rfl, hE0.trans hE⟩
            | exact ⟨ret_bool rfl (decide_eq_true hfr.2), hE0.trans hE⟩
            | exact absurd hcz h30
            | exact absurd h30 hcne
            | omega
    · -- False
      have hr27 := hb
      replace hb := of_decide_eq_true (by simpa using hb)
      rw [if_pos hcz] at hb
      have hh : ∀ f ∈ l, holdsF gg l f = true := (first_or gg l).elim (fun h => h.2) (fun h => absurd h.1 (by rw [hb]; decide))
      obtain ⟨hok, _, hform⟩ := checkF_ok hfit hcz
      have hsound := facts_sound hok hform hh
      clear hb hr27 hcz hr24 hchk
      refine c_skip ?_
      refine c_seq ?_
      -- region 7
      refine c_ops ?_
      refine l_val rfl rfl rfl (r_move rfl) ?_
      refine l_by rfl rfl rfl (r_call rfl rfl Tryd.func23 rfl rfl) (All_calls _ A1 c1 gg (hn.keep RNode.kept (Ext0.cells hE)) hok hlen (hk0.keep (Ext0.cells (hE0.trans hE)))) ?_   -- outright.go:58 slot 42 := (call {callee=(value (func 23)), args=[(tmp 41), (const (bool false))], argTypes=[22, 4]})
      rintro _ w ⟨A7, c7, rfl, hrows, hX⟩
      replace hE := hE.trans hX
      replace hf3 := hf3.keep RFact.kept (Ext0.cells hE)
      obtain ⟨wc, hwc⟩ : ∃ x, x = w := ⟨_, rfl⟩
      rw [← hwc] at hf3 hrows hE
      replace hE0 := hE0.trans hE
      replace hE : Ext0 wc w := hwc ▸ Ext.refl _ _
      refine ⟨_, rfl, ?_⟩
      refine l_val rfl rfl rfl (r_move rfl) ?_
      refine l_val rfl rfl rfl (r_extract rfl rfl rfl) ?_
      refine l_val rfl rfl rfl (r_extract rfl rfl rfl) ?_
      refine l_val rfl rfl rfl (r_assign rfl) ?_
      refine l_val rfl rfl rfl (r_assign rfl) ?_
      refine l_nil ?_
      refine c_fresh (fun e => e 1 = .slice A3 l.length c3 ∧ e 7 = .slice A7 gg.length c7 ∧ e 8 = .int .i64 0) ⟨rfl, rfl, rfl⟩ ?_
      rintro e ⟨hq1, hq7, hq8⟩
      refine c_know (t := 1) (by exact hq1) ?_
      refine c_know (t := 7) (by exact hq7) ?_
      refine c_know (t := 8) (by exact hq8) ?_
      clear hq1 hq7 hq8
      refine c_seq ?_
      refine c_seq ?_
      -- region 8
      refine c_ops ?_
      refine l_val rfl rfl rfl (r_assign rfl) ?_
      refine l_nil ?_
      refine c_block ?_
      -- loop 0: slots that it writes and that are read in it ahead of that: [9]
      refine c_loop0 (fun m1 e w => (e 1 = .slice A3 l.length c3 ∧ e 7 = .slice A7 gg.length c7 ∧ e 8 = .int .i64 0) ∧ (∃ n : Nat, n ≤ l.length ∧ m1 = l.length - n ∧ e 9 = .int .i64 n ∧ Ext0 wc w)) l.length ?_ ?_
      · exact ⟨⟨rfl, rfl, rfl⟩, 0, Nat.zero_le _, rfl, rfl, hE⟩
      rintro m1 e w ⟨⟨hq1, hq7, hq8⟩, hI⟩
      refine c_know (t := 1) (by exact hq1) ?_
      refine c_know (t := 7) (by exact hq7) ?_
      refine c_know (t := 8) (by exact hq8) ?_
      clear hq1 hq7 hq8
      obtain ⟨n, hnl, hmn, h9, hE⟩ := hI
      have hL : Has w [] := trivial
      refine c_know (t := 9) (by exact h9) ?_
      refine c_seq ?_
      refine c_seq ?_
      -- region 9
      refine c_ops ?_
      refine l_val rfl rfl rfl (r_move rfl) ?_
      refine l_val rfl rfl rfl (r_move rfl) ?_
      refine l_val rfl rfl rfl (r_len rfl Tryd.underlying29 rfl) ?_
      refine l_val rfl rfl rfl (r_lss rfl rfl rfl) ?_
      refine l_nil ?_
      refine c_cond rfl (fun hb => ?_) (fun hb => ?_)
      · -- True
        have hr48 := hb
        replace hb := of_decide_eq_true hb
        have hnlt : n < l.length := by omega
        obtain ⟨Aw, cw, hfc, _⟩ := hf3.fact n (by omega) (by omega)
        have hfm := fat_mem (l := l) (k := (n : Int)) (by omega) (by omega)
        have hfo := (formed_ok (hform _ hfm)).1
        have ha0 := hfo.a.1
        have ha1 := hfo.a.2
        have hb0 := hfo.b.1
        have hb1 := hfo.b.2
        obtain ⟨rb, hra, hrb0⟩ := hrows.at_ (fat l n).a.toNat (by omega)
        have hrb := hrb0 (fat l n).b.toNat (by omega)
        rw [Int.toNat_of_nonneg ha0, Int.toNat_of_nonneg hb0, hsound _ hfm] at hrb
        refine c_skip ?_
        refine c_seq ?_
        refine c_block ?_
        refine c_seq ?_
        -- region 11
        refine c_draw mixed (hL) hE ?_
        replace hL := hL.drew
        replace hE := hE.drew
        have hK := hL
        refine h_t 0 rfl rfl (by kernel_rfl) (fun _ _ _ h => h) ⟨hK, hE⟩ rfl (fun W hW => r_move rfl) ?_
        refine h_listed (listed' := #[true, false, false, false, false, false, false, false, false, false, false, false, false, false, false, false, false, false, false, false, false, false, false, false, false, false, false, false, false, false, false, false, false, false, false, false, false, false, false, false, false, false, false, false, false, false, false, false, false, false, false, false, false, false, false, false, false, false, false, false, false, false, false]) (by kernel_rfl) ?_
        refine h_t 1 rfl rfl (by kernel_rfl) (fun _ _ _ h => h) ⟨hK, hE⟩ rfl (fun W hW => r_neq rfl rfl rfl) ?_
        refine h_listed (listed' := #[true, true, false, false, false, false, false, false, false, false, false, false, false, false, false, false, false, false, false, false, false, false, false, false, false, false, false, false, false, false, false, false, false, false, false, false, false, false, false, false, false, false, false, false, false, false, false, false, false, false, false, false, false, false, false, false, false, false, false, false, false, false, false]) (by kernel_rfl) ?_
        refine h_t 2 rfl rfl (by kernel_rfl) (fun _ _ _ h => h) ⟨hK, hE⟩ rfl (fun W hW => r_move rfl) ?_
        refine h_listed (listed' := #[true, true, true, false, false, false, false, false, false, false, false, false, false, false, false, false, false, false, false, false, false, false, false, false, false, false, false, false, false, false, false, false, false, false, false, false, false, false, false, false, false, false, false, false, false, false, false, false, false, false, false, false, false, false, false, false, false, false, false, false, false, false, false]) (by kernel_rfl) ?_
        refine h_case 53 rfl (fun hb => ?_) (fun hb => ?_)
        · -- slot 53 is True
          have hr53 := hb
          exact absurd hb (by decide)
        · -- slot 53 is False
          have hr53 := hb
          refine h_listed (listed' := #[true, true, true, false, false, false, false, false, false, false, false, false, false, false, false, false, false, false, false, false, false, false, false, false, false, false, false, false, false, false, false, false, false, false, false, false, false, false, false, false, false, false, false, false, false, false, false, false, false, false, false, false, false, false, false, false, false, false, false, false, false, false, false]) (by kernel_rfl) ?_
          refine h_t 3 rfl rfl (by kernel_rfl) (fun _ _ _ h => h) ⟨hK, hE⟩ rfl (fun W hW => r_move rfl) ?_
          refine h_listed (listed' := #[true, true, true, true, false, false, false, false, false, false, false, false, false, false, false, false, false, false, false, false, false, false, false, false, false, false, false, false, false, false, false, false, false, false, false, false, false, false, false, false, false, false, false, false, false, false, false, false, false, false, false, false, false, false, false, false, false, false, false, false, false, false, false]) (by kernel_rfl) ?_
          refine h_t 4 rfl rfl (by kernel_rfl) (fun _ _ _ h => h) ⟨hK, hE⟩ rfl (fun W hW => r_move rfl) ?_
          refine h_listed (listed' := #[true, true, true, true, true, false, false, false, false, false, false, false, false, false, false, false, false, false, false, false, false, false, false, false, false, false, false, false, false, false, false, false, false, false, false, false, false, false, false, false, false, false, false, false, false, false, false, false, false, false, false, false, false, false, false, false, false, false, false, false, false, false, false]) (by kernel_rfl) ?_
          refine h_t 5 rfl rfl (by kernel_rfl) (fun _ _ _ h => h) ⟨hK, hE⟩ rfl (fun W hW => r_indexAddr_sl rfl Tryd.underlying29 Tryd.sizeOf37 rfl hf3.is rfl (by omega) (by omega)) ?_
          refine h_listed (listed' := #[true, true, true, true, true, true, false, false, false, false, false, false, false, false, false, false, false, false, false, false, false, false, false, false, false, false, false, false, false, false, false, false, false, false, false, false, false, false, false, false, false, false, false, false, false, false, false, false, false, false, false, false, false, false, false, false, false, false, false, false, false, false, false]) (by kernel_rfl) ?_
          refine h_t 6 rfl rfl (by kernel_rfl) (fun _ _ _ h => h) ⟨hK, hE⟩ rfl (fun W hW => r_fieldAddr (n := 0) rfl Tryd.underlying37 rfl Tryd.sizeOf3 rfl) ?_
          refine h_listed (listed' := #[true, true, true, true, true, true, true, false, false, false, false, false, false, false, false, false, false, false, false, false, false, false, false, false, false, false, false, false, false, false, false, false, false, false, false, false, false, false, false, false, false, false, false, false, false, false, false, false, false, false, false, false, false, false, false, false, false, false, false, false, false, false, false]) (by kernel_rfl) ?_
          refine h_t 7 rfl rfl (by kernel_rfl) (fun _ _ _ h => h) ⟨hK, hE⟩ rfl (fun W hW => r_load rfl Tryd.isAgg3 rfl (Ext0.cells hW.2 _ _ (hfc 0 _ rfl))) ?_
          refine h_listed (listed' := #[true, true, true, true, true, true, true, true, false, false, false, false, false, false, false, false, false, false, false, false, false, false, false, false, false, false, false, false, false, false, false, false, false, false, false, false, false, false, false, false, false, false, false, false, false, false, false, false, false, false, false, false, false, false, false, false, false, false, false, false, false, false, false]) (by kernel_rfl) ?_
          refine h_t 8 rfl rfl (by kernel_rfl) (fun _ _ _ h => h) ⟨hK, hE⟩ rfl (fun W hW => r_lss rfl rfl rfl) ?_
          refine h_listed (listed' := #[true, true, true, true, true, true, true, true, true, false, false, false, false, false, false, false, false, false, false, false, false, false, false, false, false, false, false, false, false, false, false, false, false, false, false, false, false, false, false, false, false, false, false, false, false, false, false, false, false, false, false, false, false, false, false, false, false, false, false, false, false, false, false]) (by kernel_rfl) ?_
          refine h_t 9 rfl rfl (by kernel_rfl) (fun _ _ _ h => h) ⟨hK, hE⟩ rfl (fun W hW => r_pick rfl rfl) ?_
          refine h_listed (listed' := #[true, true, true, true, true, true, true, true, true, true, false, false, false, false, false, false, false, false, false, false, false, false, false, false, false, false, false, false, false, false, false, false, false, false, false, false, false, false, false, false, false, false, false, false, false, false, false, false, false, false, false, false, false, false, false, false, false, false, false, false, false, false, false]) (by kernel_rfl) ?_
          refine h_t 10 rfl rfl (by kernel_rfl) (fun _ _ _ h => h) ⟨hK, hE⟩ rfl (fun W hW => r_move rfl) ?_
          refine h_listed (listed' := #[true, true, true, true, true, true, true, true, true, true, true, false, false, false, false, false, false, false, false, false, false, false, false, false, false, false, false, false, false, false, false, false, false, false, false, false, false, false, false, false, false, false, false, false, false, false, false, false, false, false, false, false, false, false, false, false, false, false, false, false, false, false, false]) (by kernel_rfl) ?_
          refine h_case 61 rfl (fun hb => ?_) (fun hb => ?_)
          · -- slot 61 is True
            have hr61 := hb
            replace hb := of_decide_eq_true hb
            omega
          · -- slot 61 is False
            have hr61 := hb
            replace hb := of_decide_eq_false hb
            refine h_listed (listed' := #[true, true, true, true, true, true, true, true, true, true, true, false, false, false, false, false, false, false, false, false, false, false, false, false, false, false, false, false, false, false, false, false, false, false, false, false, false, false, false, false, false, false, false, false, false, false, false, false, false, false, false, false, false, false, false, false, false, false, false, false, false, false, false]) (by kernel_rfl) ?_
            refine h_t 11 rfl rfl (by kernel_rfl) (fun _ _ _ h => h) ⟨hK, hE⟩ rfl (fun W hW => r_move rfl) ?_
            refine h_listed (listed' := #[true, true, true, true, true, true, true, true, true, true, true, true, false, false, false, false, false, false, false, false, false, false, false, false, false, false, false, false, false, false, false, false, false, false, false, false, false, false, false, false, false, false, false, false, false, false, false, false, false, false, false, false, false, false, false, false, false, false, false, false, false, false, false]) (by kernel_rfl) ?_
            refine h_t 12 rfl rfl (by kernel_rfl) (fun _ _ _ h => h) ⟨hK, hE⟩ rfl (fun W hW => r_move rfl) ?_
            refine h_listed (listed' := #[true, true, true, true, true, true, true, true, true, true, true, true, true, false, false, false, false, false, false, false, false, false, false, false, false, false, false, false, false, false, false, false, false, false, false, false, false, false, false, false, false, false, false, false, false, false, false, false, false, false, false, false, false, false, false, false, false, false, false, false, false, false, false]) (by kernel_rfl) ?_
            refine h_t 13 rfl rfl (by kernel_rfl) (fun _ _ _ h => h) ⟨hK, hE⟩ rfl (fun W hW => r_indexAddr_sl rfl Tryd.underlying29 Tryd.sizeOf37 rfl hf3.is rfl (by omega) (by omega)) ?_
            refine h_listed (listed' := #[true, true, true, true, true, true, true, true, true, true, true, true, true, true, false, false, false, false, false, false, false, false, false, false, false, false, false, false, false, false, false, false, false, false, false, false, false, false, false, false, false, false, false, false, false, false, false, false, false, false, false, false, false, false, false, false, false, false, false, false, false, false, false]) (by kernel_rfl) ?_
            refine h_t 14 rfl rfl (by kernel_rfl) (fun _ _ _ h => h) ⟨hK, hE⟩ rfl (fun W hW => r_fieldAddr (n := 0) rfl Tryd.underlying37 rfl Tryd.sizeOf3 rfl) ?_
            refine h_listed (listed' := #[true, true, true, true, true, true, true, true, true, true, true, true, true, true, true, false, false, false, false, false, false, false, false, false, false, false, false, false, false, false, false, false, false, false, false, false, false, false, false, false, false, false, false, false, false, false, false, false, false, false, false, false, false, false, false, false, false, false, false, false, false, false, false]) (by kernel_rfl) ?_
            refine h_t 15 rfl rfl (by kernel_rfl) (fun _ _ _ h => h) ⟨hK, hE⟩ rfl (fun W hW => r_load rfl Tryd.isAgg3 rfl (Ext0.cells hW.2 _ _ (hfc 0 _ rfl))) ?_
            refine h_listed (listed' := #[true, true, true, true, true, true, true, true, true, true, true, true, true, true, true, true, false, false, false, false, false, false, false, false, false, false, false, false, false, false, false, false, false, false, false, false, false, false, false, false, false, false, false, false, false, false, false, false, false, false, false, false, false, false, false, false, false, false, false, false, false, false, false]) (by kernel_rfl) ?_
            refine h_t 16 rfl rfl (by kernel_rfl) (fun _ _ _ h => h) ⟨hK, hE⟩ rfl (fun W hW => r_move rfl) ?_
            refine h_listed (listed' := #[true, true, true, true, true, true, true, true, true, true, true, true, true, true, true, true, true, false, false, false, false, false, false, false, false, false, false, false, false, false, false, false, false, false, false, false, false, false, false, false, false, false, false, false, false, false, false, false, false, false, false, false, false, false, false, false, false, false, false, false, false, false, false]) (by kernel_rfl) ?_
            refine h_t 17 rfl rfl (by kernel_rfl) (fun _ _ _ h => h) ⟨hK, hE⟩ rfl (fun W hW => r_len rfl Tryd.underlying52 rfl) ?_
            refine h_listed (listed' := #[true, true, true, true, true, true, true, true, true, true, true, true, true, true, true, true, true, true, false, false, false, false, false, false, false, false, false, false, false, false, false, false, false, false, false, false, false, false, false, false, false, false, false, false, false, false, false, false, false, false, false, false, false, false, false, false, false, false, false, false, false, false, false]) (by kernel_rfl) ?_
            refine h_t 18 rfl rfl (by kernel_rfl) (fun _ _ _ h => h) ⟨hK, hE⟩ rfl (fun W hW => r_geq rfl rfl rfl) ?_
            refine h_listed (listed' := #[true, true, true, true, true, true, true, true, true, true, true, true, true, true, true, true, true, true, true, false, false, false, false, false, false, false, false, false, false, false, false, false, false, false, false, false, false, false, false, false, false, false, false, false, false, false, false, false, false, false, false, false, false, false, false, false, false, false, false, false, false, false, false]) (by kernel_rfl) ?_
            refine h_t 19 rfl rfl (by kernel_rfl) (fun _ _ _ h => h) ⟨hK, hE⟩ rfl (fun W hW => r_pick rfl rfl) ?_
            refine h_listed (listed' := #[true, true, true, true, true, true, true, true, true, true, true, true, true, true, true, true, true, true, true, true, false, false, false, false, false, false, false, false, false, false, false, false, false, false, false, false, false, false, false, false, false, false, false, false, false, false, false, false, false, false, false, false, false, false, false, false, false, false, false, false, false, false, false]) (by kernel_rfl) ?_
            refine h_t 20 rfl rfl (by kernel_rfl) (fun _ _ _ h => h) ⟨hK, hE⟩ rfl (fun W hW => r_move rfl) ?_
            refine h_listed (listed' := #[true, true, true, true, true, true, true, true, true, true, true, true, true, true, true, true, true, true, true, true, true, false, false, false, false, false, false, false, false, false, false, false, false, false, false, false, false, false, false, false, false, false, false, false, false, false, false, false, false, false, false, false, false, false, false, false, false, false, false, false, false, false, false]) (by kernel_rfl) ?_
            refine h_case 71 rfl (fun hb => ?_) (fun hb => ?_)
            · -- slot 71 is True
              have hr71 := hb
              replace hb := of_decide_eq_true hb
              omega
            · -- slot 71 is False
              have hr71 := hb
              replace hb := of_decide_eq_false hb
              refine h_listed (listed' := #[true, true, true, true, true, true, true, true, true, true, true, true, true, true, true, true, true, true, true, true, true, false, false, false, false, false, false, false, false, false, false, false, false, false, false, false, false, false, false, false, false, false, false, false, false, false, false, false, false, false, false, false, false, false, false, false, false, false, false, false, false, false, false]) (by kernel_rfl) ?_
              refine h_t 21 rfl rfl (by kernel_rfl) (fun _ _ _ h => h) ⟨hK, hE⟩ rfl (fun W hW => r_move rfl) ?_
              refine h_listed (listed' := #[true, true, true, true, true, true, true, true, true, true, true, true, true, true, true, true, true, true, true, true, true, true, false, false, false, false, false, false, false, false, false, false, false, false, false, false, false, false, false, false, false, false, false, false, false, false, false, false, false, false, false, false, false, false, false, false, false, false, false, false, false, false, false]) (by kernel_rfl) ?_
              refine h_t 22 rfl rfl (by kernel_rfl) (fun _ _ _ h => h) ⟨hK, hE⟩ rfl (fun W hW => r_move rfl) ?_
              refine h_listed (listed' := #[true, true, true, true, true, true, true, true, true, true, true, true, true, true, true, true, true, true, true, true, true, true, true, false, false, false, false, false, false, false, false, false, false, false, false, false, false, false, false, false, false, false, false, false, false, false, false, false, false, false, false, false, false, false, false, false, false, false, false, false, false, false, false]) (by kernel_rfl) ?_
              refine h_t 23 rfl rfl (by kernel_rfl) (fun _ _ _ h => h) ⟨hK, hE⟩ rfl (fun W hW => r_indexAddr_sl rfl Tryd.underlying29 Tryd.sizeOf37 rfl hf3.is rfl (by omega) (by omega)) ?_
              refine h_listed (listed' := #[true, true, true, true, true, true, true, true, true, true, true, true, true, true, true, true, true, true, true, true, true, true, true, true, false, false, false, false, false, false, false, false, false, false, false, false, false, false, false, false, false, false, false, false, false, false, false, false, false, false, false, false, false, false, false, false, false, false, false, false, false, false, false]) (by kernel_rfl) ?_
              refine h_t 24 rfl rfl (by kernel_rfl) (fun _ _ _ h => h) ⟨hK, hE⟩ rfl (fun W hW => r_fieldAddr (n := 0) rfl Tryd.underlying37 rfl Tryd.sizeOf3 rfl) ?_
              refine h_listed (listed' := #[true, true, true, true, true, true, true, true, true, true, true, true, true, true, true, true, true, true, true, true, true, true, true, true, true, false, false, false, false, false, false, false, false, false, false, false, false, false, false, false, false, false, false, false, false, false, false, false, false, false, false, false, false, false, false, false, false, false, false, false, false, false, false]) (by kernel_rfl) ?_
              refine h_t 25 rfl rfl (by kernel_rfl) (fun _ _ _ h => h) ⟨hK, hE⟩ rfl (fun W hW => r_load rfl Tryd.isAgg3 rfl (Ext0.cells hW.2 _ _ (hfc 1 _ rfl))) ?_
              refine h_listed (listed' := #[true, true, true, true, true, true, true, true, true, true, true, true, true, true, true, true, true, true, true, true, true, true, true, true, true, true, false, false, false, false, false, false, false, false, false, false, false, false, false, false, false, false, false, false, false, false, false, false, false, false, false, false, false, false, false, false, false, false, false, false, false, false, false]) (by kernel_rfl) ?_
              refine h_t 26 rfl rfl (by kernel_rfl) (fun _ _ _ h => h) ⟨hK, hE⟩ rfl (fun W hW => r_lss rfl rfl rfl) ?_
              refine h_listed (listed' := #[true, true, true, true, true, true, true, true, true, true, true, true, true, true, true, true, true, true, true, true, true, true, true, true, true, true, true, false, false, false, false, false, false, false, false, false, false, false, false, false, false, false, false, false, false, false, false, false, false, false, false, false, false, false, false, false, false, false, false, false, false, false, false]) (by kernel_rfl) ?_
              refine h_t 27 rfl rfl (by kernel_rfl) (fun _ _ _ h => h) ⟨hK, hE⟩ rfl (fun W hW => r_pick rfl rfl) ?_
              refine h_listed (listed' := #[true, true, true, true, true, true, true, true, true, true, true, true, true, true, true, true, true, true, true, true, true, true, true, true, true, true, true, true, false, false, false, false, false, false, false, false, false, false, false, false, false, false, false, false, false, false, false, false, false, false, false, false, false, false, false, false, false, false, false, false, false, false, false]) (by kernel_rfl) ?_
              refine h_t 28 rfl rfl (by kernel_rfl) (fun _ _ _ h => h) ⟨hK, hE⟩ rfl (fun W hW => r_move rfl) ?_
              refine h_listed (listed' := #[true, true, true, true, true, true, true, true, true, true, true, true, true, true, true, true, true, true, true, true, true, true, true, true, true, true, true, true, true, false, false, false, false, false, false, false, false, false, false, false, false, false, false, false, false, false, false, false, false, false, false, false, false, false, false, false, false, false, false, false, false, false, false]) (by kernel_rfl) ?_
              refine h_case 79 rfl (fun hb => ?_) (fun hb => ?_)
              · -- slot 79 is True
                have hr79 := hb
                replace hb := of_decide_eq_true hb
                omega
              · -- slot 79 is False
                have hr79 := hb
                replace hb := of_decide_eq_false hb
                refine h_listed (listed' := #[true, true, true, true, true, true, true, true, true, true, true, true, true, true, true, true, true, true, true, true, true, true, true, true, true, true, true, true, true, false, false, false, false, false, false, false, false, false, false, false, false, false, false, false, false, false, false, false, false, false, false, false, false, false, false, false, false, false, false, false, false, false, false]) (by kernel_rfl) ?_
                refine h_t 29 rfl rfl (by kernel_rfl) (fun _ _ _ h => h) ⟨hK, hE⟩ rfl (fun W hW => r_move rfl) ?_
                refine h_listed (listed' := #[true, true, true, true, true, true, true, true, true, true, true, true, true, true, true, true, true, true, true, true, true, true, true, true, true, true, true, true, true, true, false, false, false, false, false, false, false, false, false, false, false, false, false, false, false, false, false, false, false, false, false, false, false, false, false, false, false, false, false, false, false, false, false]) (by kernel_rfl) ?_
                refine h_t 30 rfl rfl (by kernel_rfl) (fun _ _ _ h => h) ⟨hK, hE⟩ rfl (fun W hW => r_move rfl) ?_
                refine h_listed (listed' := #[true, true, true, true, true, true, true, true, true, true, true, true, true, true, true, true, true, true, true, true, true, true, true, true, true, true, true, true, true, true, true, false, false, false, false, false, false, false, false, false, false, false, false, false, false, false, false, false, false, false, false, false, false, false, false, false, false, false, false, false, false, false, false]) (by kernel_rfl) ?_
                refine h_t 31 rfl rfl (by kernel_rfl) (fun _ _ _ h => h) ⟨hK, hE⟩ rfl (fun W hW => r_indexAddr_sl rfl Tryd.underlying29 Tryd.sizeOf37 rfl hf3.is rfl (by omega) (by omega)) ?_
                refine h_listed (listed' := #[true, true, true, true, true, true, true, true, true, true, true, true, true, true, true, true, true, true, true, true, true, true, true, true, true, true, true, true, true, true, true, true, false, false, false, false, false, false, false, false, false, false, false, false, false, false, false, false, false, false, false, false, false, false, false, false, false, false, false, false, false, false, false]) (by kernel_rfl) ?_
                refine h_t 32 rfl rfl (by kernel_rfl) (fun _ _ _ h => h) ⟨hK, hE⟩ rfl (fun W hW => r_fieldAddr (n := 0) rfl Tryd.underlying37 rfl Tryd.sizeOf3 rfl) ?_
                refine h_listed (listed' := #[true, true, true, true, true, true, true, true, true, true, true, true, true, true, true, true, true, true, true, true, true, true, true, true, true, true, true, true, true, true, true, true, true, false, false, false, false, false, false, false, false, false, false, false, false, false, false, false, false, false, false, false, false, false, false, false, false, false, false, false, false, false, false]) (by kernel_rfl) ?_
                refine h_t 33 rfl rfl (by kernel_rfl) (fun _ _ _ h => h) ⟨hK, hE⟩ rfl (fun W hW => r_load rfl Tryd.isAgg3 rfl (Ext0.cells hW.2 _ _ (hfc 1 _ rfl))) ?_
                refine h_listed (listed' := #[true, true, true, true, true, true, true, true, true, true, true, true, true, true, true, true, true, true, true, true, true, true, true, true, true, true, true, true, true, true, true, true, true, true, false, false, false, false, false, false, false, false, false, false, false, false, false, false, false, false, false, false, false, false, false, false, false, false, false, false, false, false, false]) (by kernel_rfl) ?_
                refine h_t 34 rfl rfl (by kernel_rfl) (fun _ _ _ h => h) ⟨hK, hE⟩ rfl (fun W hW => r_move rfl) ?_
                refine h_listed (listed' := #[true, true, true, true, true, true, true, true, true, true, true, true, true, true, true, true, true, true, true, true, true, true, true, true, true, true, true, true, true, true, true, true, true, true, true, false, false, false, false, false, false, false, false, false, false, false, false, false, false, false, false, false, false, false, false, false, false, false, false, false, false, false, false]) (by kernel_rfl) ?_
                refine h_t 35 rfl rfl (by kernel_rfl) (fun _ _ _ h => h) ⟨hK, hE⟩ rfl (fun W hW => r_move rfl) ?_
                refine h_listed (listed' := #[true, true, true, true, true, true, true, true, true, true, true, true, true, true, true, true, true, true, true, true, true, true, true, true, true, true, true, true, true, true, true, true, true, true, true, true, false, false, false, false, false, false, false, false, false, false, false, false, false, false, false, false, false, false, false, false, false, false, false, false, false, false, false]) (by kernel_rfl) ?_
                refine h_t 36 rfl rfl (by kernel_rfl) (fun _ _ _ h => h) ⟨hK, hE⟩ rfl (fun W hW => r_move rfl) ?_
                refine h_listed (listed' := #[true, true, true, true, true, true, true, true, true, true, true, true, true, true, true, true, true, true, true, true, true, true, true, true, true, true, true, true, true, true, true, true, true, true, true, true, true, false, false, false, false, false, false, false, false, false, false, false, false, false, false, false, false, false, false, false, false, false, false, false, false, false, false]) (by kernel_rfl) ?_
                refine h_t 37 rfl rfl (by kernel_rfl) (fun _ _ _ h => h) ⟨hK, hE⟩ rfl (fun W hW => r_indexAddr_sl rfl Tryd.underlying29 Tryd.sizeOf37 rfl hf3.is rfl (by omega) (by omega)) ?_
                refine h_listed (listed' := #[true, true, true, true, true, true, true, true, true, true, true, true, true, true, true, true, true, true, true, true, true, true, true, true, true, true, true, true, true, true, true, true, true, true, true, true, true, true, false, false, false, false, false, false, false, false, false, false, false, false, false, false, false, false, false, false, false, false, false, false, false, false, false]) (by kernel_rfl) ?_
                refine h_t 38 rfl rfl (by kernel_rfl) (fun _ _ _ h => h) ⟨hK, hE⟩ rfl (fun W hW => r_fieldAddr (n := 0) rfl Tryd.underlying37 rfl Tryd.sizeOf3 rfl) ?_
                refine h_listed (listed' := #[true, true, true, true, true, true, true, true, true, true, true, true, true, true, true, true, true, true, true, true, true, true, true, true, true, true, true, true, true, true, true, true, true, true, true, true, true, true, true, false, false, false, false, false, false, false, false, false, false, false, false, false, false, false, false, false, false, false, false, false, false, false, false]) (by kernel_rfl) ?_
                refine h_t 39 rfl rfl (by kernel_rfl) (fun _ _ _ h => h) ⟨hK, hE⟩ rfl (fun W hW => r_load rfl Tryd.isAgg3 rfl (Ext0.cells hW.2 _ _ (hfc 0 _ rfl))) ?_
                refine h_listed (listed' := #[true, true, true, true, true, true, true, true, true, true, true, true, true, true, true, true, true, true, true, true, true, true, true, true, true, true, true, true, true, true, true, true, true, true, true, true, true, true, true, true, false, false, false, false, false, false, false, false, false, false, false, false, false, false, false, false, false, false, false, false, false, false, false]) (by kernel_rfl) ?_
                refine h_t 40 rfl rfl (by kernel_rfl) (fun _ _ _ h => h) ⟨hK, hE⟩ rfl (fun W hW => r_indexAddr_sl rfl Tryd.underlying52 Tryd.sizeOf55 rfl hrows.is rfl ha0 ha1) ?_
                refine h_listed (listed' := #[true, true, true, true, true, true, true, true, true, true, true, true, true, true, true, true, true, true, true, true, true, true, true, true, true, true, true, true, true, true, true, true, true, true, true, true, true, true, true, true, true, false, false, false, false, false, false, false, false, false, false, false, false, false, false, false, false, false, false, false, false, false, false]) (by kernel_rfl) ?_
                refine h_t 41 rfl rfl (by kernel_rfl) (fun _ _ _ h => h) ⟨hK, hE⟩ rfl (fun W hW => r_load rfl Tryd.isAgg55 rfl (Ext0.cells hW.2 _ _ hra)) ?_
                refine h_listed (listed' := #[true, true, true, true, true, true, true, true, true, true, true, true, true, true, true, true, true, true, true, true, true, true, true, true, true, true, true, true, true, true, true, true, true, true, true, true, true, true, true, true, true, true, false, false, false, false, false, false, false, false, false, false, false, false, false, false, false, false, false, false, false, false, false]) (by kernel_rfl) ?_
                refine h_t 42 rfl rfl (by kernel_rfl) (fun _ _ _ h => h) ⟨hK, hE⟩ rfl (fun W hW => r_len rfl Tryd.underlying55 rfl) ?_
                refine h_listed (listed' := #[true, true, true, true, true, true, true, true, true, true, true, true, true, true, true, true, true, true, true, true, true, true, true, true, true, true, true, true, true, true, true, true, true, true, true, true, true, true, true, true, true, true, true, false, false, false, false, false, false, false, false, false, false, false, false, false, false, false, false, false, false, false, false]) (by kernel_rfl) ?_
                refine h_t 43 rfl rfl (by kernel_rfl) (fun _ _ _ h => h) ⟨hK, hE⟩ rfl (fun W hW => r_geq rfl rfl rfl) ?_
                refine h_listed (listed' := #[true, true, true, true, true, true, true, true, true, true, true, true, true, true, true, true, true, true, true, true, true, true, true, true, true, true, true, true, true, true, true, true, true, true, true, true, true, true, true, true, true, true, true, true, false, false, false, false, false, false, false, false, false, false, false, false, false, false, false, false, false, false, false]) (by kernel_rfl) ?_
                refine h_t 44 rfl rfl (by kernel_rfl) (fun _ _ _ h => h) ⟨hK, hE⟩ rfl (fun W hW => r_pick rfl rfl) ?_
                refine h_listed (listed' := #[true, true, true, true, true, true, true, true, true, true, true, true, true, true, true, true, true, true, true, true, true, true, true, true, true, true, true, true, true, true, true, true, true, true, true, true, true, true, true, true, true, true, true, true, true, false, false, false, false, false, false, false, false, false, false, false, false, false, false, false, false, false, false]) (by kernel_rfl) ?_
                refine h_t 45 rfl rfl (by kernel_rfl) (fun _ _ _ h => h) ⟨hK, hE⟩ rfl (fun W hW => r_move rfl) ?_
                refine h_listed (listed' := #[true, true, true, true, true, true, true, true, true, true, true, true, true, true, true, true, true, true, true, true, true, true, true, true, true, true, true, true, true, true, true, true, true, true, true, true, true, true, true, true, true, true, true, true, true, true, false, false, false, false, false, false, false, false, false, false, false, false, false, false, false, false, false]) (by kernel_rfl) ?_
                refine h_case 96 rfl (fun hb => ?_) (fun hb => ?_)
                · -- slot 96 is True
                  have hr96 := hb
                  replace hb := of_decide_eq_true hb
                  omega
                · -- slot 96 is False
                  have hr96 := hb
                  replace hb := of_decide_eq_false hb
                  refine h_listed (listed' := #[true, true, true, true, true, true, true, true, true, true, true, true, true, true, true, true, true, true, true, true, true, true, true, true, true, true, true, true, true, true, true, true, true, true, true, true, true, true, true, true, true, true, true, true, true, true, false, false, false, false, false, false, false, false, false, false, false, false, false, false, false, false, false]) (by kernel_rfl) ?_
                  refine h_t 46 rfl rfl (by kernel_rfl) (fun _ _ _ h => h) ⟨hK, hE⟩ rfl (fun W hW => r_move rfl) ?_
                  refine h_listed (listed' := #[true, true, true, true, true, true, true, true, true, true, true, true, true, true, true, true, true, true, true, true, true, true, true, true, true, true, true, true, true, true, true, true, true, true, true, true, true, true, true, true, true, true, true, true, true, true, true, false, false, false, false, false, false, false, false, false, false, false, false, false, false, false, false]) (by kernel_rfl) ?_
                  refine h_t 47 rfl rfl (by kernel_rfl) (fun _ _ _ h => h) ⟨hK, hE⟩ rfl (fun W hW => r_move rfl) ?_
                  refine h_listed (listed' := #[true, true, true, true, true, true, true, true, true, true, true, true, true, true, true, true, true, true, true, true, true, true, true, true, true, true, true, true, true, true, true, true, true, true, true, true, true, true, true, true, true, true, true, true, true, true, true, true, false, false, false, false, false, false, false, false, false, false, false, false, false, false, false]) (by kernel_rfl) ?_
                  refine h_t 48 rfl rfl (by kernel_rfl) (fun _ _ _ h => h) ⟨hK, hE⟩ rfl (fun W hW => r_move rfl) ?_
                  refine h_listed (listed' := #[true, true, true, true, true, true, true, true, true, true, true, true, true, true, true, true, true, true, true, true, true, true, true, true, true, true, true, true, true, true, true, true, true, true, true, true, true, true, true, true, true, true, true, true, true, true, true, true, true, false, false, false, false, false, false, false, false, false, false, false, false, false, false]) (by kernel_rfl) ?_
                  refine h_t 49 rfl rfl (by kernel_rfl) (fun _ _ _ h => h) ⟨hK, hE⟩ rfl (fun W hW => r_indexAddr_sl rfl Tryd.underlying29 Tryd.sizeOf37 rfl hf3.is rfl (by omega) (by omega)) ?_
                  refine h_listed (listed' := #[true, true, true, true, true, true, true, true, true, true, true, true, true, true, true, true, true, true, true, true, true, true, true, true, true, true, true, true, true, true, true, true, true, true, true, true, true, true, true, true, true, true, true, true, true, true, true, true, true, true, false, false, false, false, false, false, false, false, false, false, false, false, false]) (by kernel_rfl) ?_
                  refine h_t 50 rfl rfl (by kernel_rfl) (fun _ _ _ h => h) ⟨hK, hE⟩ rfl (fun W hW => r_fieldAddr (n := 0) rfl Tryd.underlying37 rfl Tryd.sizeOf3 rfl) ?_
                  refine h_listed (listed' := #[true, true, true, true, true, true, true, true, true, true, true, true, true, true, true, true, true, true, true, true, true, true, true, true, true, true, true, true, true, true, true, true, true, true, true, true, true, true, true, true, true, true, true, true, true, true, true, true, true, true, true, false, false, false, false, false, false, false, false, false, false, false, false]) (by kernel_rfl) ?_
                  refine h_t 51 rfl rfl (by kernel_rfl) (fun _ _ _ h => h) ⟨hK, hE⟩ rfl (fun W hW => r_load rfl Tryd.isAgg3 rfl (Ext0.cells hW.2 _ _ (hfc 0 _ rfl))) ?_
                  refine h_listed (listed' := #[true, true, true, true, true, true, true, true, true, true, true, true, true, true, true, true, true, true, true, true, true, true, true, true, true, true, true, true, true, true, true, true, true, true, true, true, true, true, true, true, true, true, true, true, true, true, true, true, true, true, true, true, false, false, false, false, false, false, false, false, false, false, false]) (by kernel_rfl) ?_
                  refine h_t 52 rfl rfl (by kernel_rfl) (fun _ _ _ h => h) ⟨hK, hE⟩ rfl (fun W hW => r_indexAddr_sl rfl Tryd.underlying52 Tryd.sizeOf55 rfl hrows.is rfl ha0 ha1) ?_
                  refine h_listed (listed' := #[true, true, true, true, true, true, true, true, true, true, true, true, true, true, true, true, true, true, true, true, true, true, true, true, true, true, true, true, true, true, true, true, true, true, true, true, true, true, true, true, true, true, true, true, true, true, true, true, true, true, true, true, true, false, false, false, false, false, false, false, false, false, false]) (by kernel_rfl) ?_
                  refine h_t 53 rfl rfl (by kernel_rfl) (fun _ _ _ h => h) ⟨hK, hE⟩ rfl (fun W hW => r_load rfl Tryd.isAgg55 rfl (Ext0.cells hW.2 _ _ hra)) ?_
                  refine h_listed (listed' := #[true, true, true, true, true, true, true, true, true, true, true, true, true, true, true, true, true, true, true, true, true, true, true, true, true, true, true, true, true, true, true, true, true, true, true, true, true, true, true, true, true, true, true, true, true, true, true, true, true, true, true, true, true, true, false, false, false, false, false, false, false, false, false]) (by kernel_rfl) ?_
                  refine h_t 54 rfl rfl (by kernel_rfl) (fun _ _ _ h => h) ⟨hK, hE⟩ rfl (fun W hW => r_move rfl) ?_
                  refine h_listed (listed' := #[true, true, true, true, true, true, true, true, true, true, true, true, true, true, true, true, true, true, true, true, true, true, true, true, true, true, true, true, true, true, true, true, true, true, true, true, true, true, true, true, true, true, true, true, true, true, true, true, true, true, true, true, true, true, true, false, false, false, false, false, false, false, false]) (by kernel_rfl) ?_
                  refine h_t 55 rfl rfl (by kernel_rfl) (fun _ _ _ h => h) ⟨hK, hE⟩ rfl (fun W hW => r_move rfl) ?_
                  refine h_listed (listed' := #[true, true, true, true, true, true, true, true, true, true, true, true, true, true, true, true, true, true, true, true, true, true, true, true, true, true, true, true, true, true, true, true, true, true, true, true, true, true, true, true, true, true, true, true, true, true, true, true, true, true, true, true, true, true, true, true, false, false, false, false, false, false, false]) (by kernel_rfl) ?_
                  refine h_t 56 rfl rfl (by kernel_rfl) (fun _ _ _ h => h) ⟨hK, hE⟩ rfl (fun W hW => r_indexAddr_sl rfl Tryd.underlying29 Tryd.sizeOf37 rfl hf3.is rfl (by omega) (by omega)) ?_
                  refine h_listed (listed' := #[true, true, true, true, true, true, true, true, true, true, true, true, true, true, true, true, true, true, true, true, true, true, true, true, true, true, true, true, true, true, true, true, true, true, true, true, true, true, true, true, true, true, true, true, true, true, true, true, true, true, true, true, true, true, true, true, true, false, false, false, false, false, false]) (by kernel_rfl) ?_
                  refine h_t 57 rfl rfl (by kernel_rfl) (fun _ _ _ h => h) ⟨hK, hE⟩ rfl (fun W hW => r_fieldAddr (n := 0) rfl Tryd.underlying37 rfl Tryd.sizeOf3 rfl) ?_
                  refine h_listed (listed' := #[true, true, true, true, true, true, true, true, true, true, true, true, true, true, true, true, true, true, true, true, true, true, true, true, true, true, true, true, true, true, true, true, true, true, true, true, true, true, true, true, true, true, true, true, true, true, true, true, true, true, true, true, true, true, true, true, true, true, false, false, false, false, false]) (by kernel_rfl) ?_
                  refine h_t 58 rfl rfl (by kernel_rfl) (fun _ _ _ h => h) ⟨hK, hE⟩ rfl (fun W hW => r_load rfl Tryd.isAgg3 rfl (Ext0.cells hW.2 _ _ (hfc 1 _ rfl))) ?_
                  refine h_listed (listed' := #[true, true, true, true, true, true, true, true, true, true, true, true, true, true, true, true, true, true, true, true, true, true, true, true, true, true, true, true, true, true, true, true, true, true, true, true, true, true, true, true, true, true, true, true, true, true, true, true, true, true, true, true, true, true, true, true, true, true, true, false, false, false, false]) (by kernel_rfl) ?_
                  refine h_t 59 rfl rfl (by kernel_rfl) (fun _ _ _ h => h) ⟨hK, hE⟩ rfl (fun W hW => r_indexAddr_sl rfl Tryd.underlying55 Tryd.sizeOf4 rfl (fun _ => rfl) rfl hb0 hb1) ?_
                  refine h_listed (listed' := #[true, true, true, true, true, true, true, true, true, true, true, true, true, true, true, true, true, true, true, true, true, true, true, true, true, true, true, true, true, true, true, true, true, true, true, true, true, true, true, true, true, true, true, true, true, true, true, true, true, true, true, true, true, true, true, true, true, true, true, true, false, false, false]) (by kernel_rfl) ?_
                  refine h_t 60 rfl rfl (by kernel_rfl) (fun _ _ _ h => h) ⟨hK, hE⟩ rfl (fun W hW => r_load (v := .bool true) rfl Tryd.isAgg4 rfl (Ext0.cells hW.2 _ _ hrb)) ?_
                  refine h_listed (listed' := #[true, true, true, true, true, true, true, true, true, true, true, true, true, true, true, true, true, true, true, true, true, true, true, true, true, true, true, true, true, true, true, true, true, true, true, true, true, true, true, true, true, true, true, true, true, true, true, true, true, true, true, true, true, true, true, true, true, true, true, true, true, false, false]) (by kernel_rfl) ?_
                  refine h_t 61 rfl rfl (by kernel_rfl) (fun _ _ _ h => h) ⟨hK, hE⟩ rfl (fun W hW => r_not rfl rfl) ?_
                  refine h_listed (listed' := #[true, true, true, true, true, true, true, true, true, true, true, true, true, true, true, true, true, true, true, true, true, true, true, true, true, true, true, true, true, true, true, true, true, true, true, true, true, true, true, true, true, true, true, true, true, true, true, true, true, true, true, true, true, true, true, true, true, true, true, true, true, true, false]) (by kernel_rfl) ?_
                  refine h_t 62 rfl rfl (by kernel_rfl) (fun _ _ _ h => h) ⟨hK, hE⟩ rfl (fun W hW => r_pick rfl rfl) ?_
                  refine h_listed (listed' := #[true, true, true, true, true, true, true, true, true, true, true, true, true, true, true, true, true, true, true, true, true, true, true, true, true, true, true, true, true, true, true, true, true, true, true, true, true, true, true, true, true, true, true, true, true, true, true, true, true, true, true, true, true, true, true, true, true, true, true, true, true, true, true]) (by kernel_rfl) ?_
                  refine h_done (by kernel_rfl) ?_
                  refine c_no rfl ?_
                  refine c_skip ?_
                  -- region 10
                  refine c_ops ?_
                  refine l_val rfl rfl rfl (r_move rfl) ?_
                  refine l_val rfl rfl rfl (r_add rfl rfl rfl) ?_
                  refine l_val rfl rfl rfl (r_assign rfl) ?_
                  refine l_nil ?_
                  exact ⟨l.length - (n + 1), by omega, ⟨rfl, rfl, rfl⟩, n + 1, by omega, rfl, by show Value.int .i64 (IntKind.i64.wrap ((n : Int) + 1)) = _; rw [wrap_succ hnlt (by omega)], hE⟩
      · -- False
        have hr48 := hb
        replace hb := of_decide_eq_false hb
        refine c_exit ?_
        refine c_seq ?_
        -- region 13
        refine c_ops ?_
        refine l_val rfl rfl rfl (r_assign rfl) ?_
        refine l_nil ?_
        refine c_ret ?_
        first
          | exact ⟨rfl, hE0.trans hE⟩
          | exact ⟨ret_bool rfl (decide_eq_true hfr.2), hE0.trans hE⟩
          | exact absurd hcz h30
          | exact absurd h30 hcne
          | omega
end Go.Proofs.YtndophlnapjkhaaDoor.Vc
