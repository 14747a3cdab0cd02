/- Graphs and pairs cut small by the statements: cut, fine, pairsOf. Conditions: those of each statement. -/
import Derived.Test.YtndophlnapjkhaaDoorLaw2
namespace Go.Proofs.YtndophlnapjkhaaDoor.Vc
open Go Go.RowKit
set_option linter.unusedVariables false
set_option linter.unusedSimpArgs false

def cutS (s : ByteArray) : ByteArray := s.extract 0 (min s.size 20)
def cutN (x : GNode) : GNode := ⟨x.kind, x.num, cutS x.name, (x.keys.take 12).map cutS, x.l.take 12⟩
def cutF (g : List GNode) : List GNode := (g.take 16).map cutN
theorem cutF_len (g : List GNode) : (cutF g).length ≤ 16 := by simp [cutF]; omega
theorem cutS_size (s : ByteArray) : (cutS s).size ≤ 20 := by simp [cutS]; omega
theorem cutF_fits (g : List GNode) : Fits (cutF g) := by
  refine ⟨fun x hx => ?_, fun x hx => ?_⟩ <;> obtain ⟨y, _, rfl⟩ := List.mem_map.1 hx
  · refine ⟨Nat.le_trans (cutS_size y.name) (by decide), fun s hs => ?_⟩
    obtain ⟨t, _, rfl⟩ := List.mem_map.1 hs
    exact Nat.le_trans (cutS_size t) (by decide)
  · simp [cutN]; omega
theorem cut_nat (n k : Nat) : (if (k : Int) < (n : Int) then (k : Int) else (n : Int)).toNat = min n k := by
  split <;> omega
section
variable {P : Program} {w : World} {ρ : Operand → Value} {o : Oper}
theorem r_cutS {x i : Operand} {t : TypeId} {s : ByteArray} {k : IntKind} (h : o.op = .slice t x none (some i) none) (hu : P.underlying t = some .string) (hx : ρ x = .string s) (hi : ρ i = .int k (if (20 : Int) < (s.size : Int) then 20 else (s.size : Int))) : (execOp ρ o).run P w = .ok (.value (.string (cutS s))) w := by
  have := r_str_to (P := P) (w := w) h hu hx hi (by split <;> omega) (by split <;> omega)
  rw [show (20 : Int) = ((20 : Nat) : Int) from rfl, cut_nat] at this
  exact this
theorem r_cutL {x i : Operand} {t el : TypeId} {A : Option Addr} {n c sz : Nat} {k : IntKind} (h : o.op = .slice t x none (some i) none) (hu : P.underlying t = some (.slice el)) (hs : Sized P el sz) (hx : ρ x = .slice A n c) (hi : ρ i = .int k (if (12 : Int) < (n : Int) then 12 else (n : Int))) (hc : n ≤ c) : (execOp ρ o).run P w = .ok (.value (.slice A (min n 12) c)) w := by
  have := r_slice_to (P := P) (w := w) h hu hs hx hi (by split <;> omega) (by split <;> omega)
  rw [show (12 : Int) = ((12 : Nat) : Int) from rfl, cut_nat] at this
  exact this
end
theorem Sl.take {α : Type} {w : World} {sz : Nat} {R : World → α → List Value → Prop} {A : Option Addr} {n c : Nat} {xs : List α} (h : Sl w sz R A n c xs) (k : Nat) : Sl w sz R A (min n k) c (xs.take k) := by
  have h1 := h.len
  have h2 := h.cap
  have h3 := h.max
  refine ⟨by rw [List.length_take, h1, Nat.min_comm], by omega, by omega, fun hp => h.is (by omega), fun i x hi => ?_⟩
  rw [List.getElem?_take] at hi
  split at hi
  · exact h.at_ i x hi
  · cases hi
abbrev NV : Type := GNode × Value × Value
def ncell (x : NV) : List Value := [.int .i64 x.1.kind, .int .i64 x.1.num, .string x.1.name, x.2.1, x.2.2]
def nres (B : Nat) (x : NV) : List Res := [.row B 9 1 x.2.1 x.1.keys.length (x.1.keys.map Value.string), .row B 3 1 x.2.2 x.1.l.length (x.1.l.map (Value.int .i64))]
theorem ncells_snoc (nv : List NV) (x : NV) : (nv.map ncell).flatten ++ ncell x = ((nv ++ [x]).map ncell).flatten := by simp
theorem flat_strs (l : List ByteArray) : (l.map fun x => [Value.string x]).flatten = l.map Value.string := by
  induction l with
  | nil => rfl
  | cons x r ih => simp [ih]
theorem Sl.ofStrs {w : World} {base e n : Nat} {v : Value} {l : List ByteArray} (h : w.ownsRow base e 1 v n (l.map Value.string)) : ∃ A c, v = .slice A n c ∧ Sl w 1 RStr A n c l := by
  have hn : l.length = n := by have := h.1; simpa using this
  rw [← flat_strs] at h
  obtain ⟨A, c, h1, h2, _⟩ := Sl.ofRow h (Els.strs w l) hn
  exact ⟨A, c, h1, h2⟩
theorem Els.nodes {w : World} {B : Nat} {L : List Res} {nv : List NV} (h : Has w L) (hs : ∀ x ∈ nv, ∀ r ∈ nres B x, r ∈ L) : Els w 5 RNode (nv.map (·.1)) (nv.map ncell) := by
  refine ⟨by simp, fun i x cs h1 h2 => ?_⟩
  rw [List.getElem?_map, Option.map_eq_some_iff] at h1 h2
  obtain ⟨y, hy, rfl⟩ := h1
  obtain ⟨y', hy', rfl⟩ := h2
  rw [hy] at hy'
  cases hy'
  have hm := hs y (List.mem_of_getElem? hy)
  obtain ⟨Ak, ck, hk, hsk⟩ := Sl.ofStrs (h.mem (.row B 9 1 y.2.1 y.1.keys.length (y.1.keys.map Value.string)) (hm _ List.mem_cons_self))
  obtain ⟨Al, cl, hl, hsl, _⟩ := Sl.ofInts (h.mem (.row B 3 1 y.2.2 y.1.l.length (y.1.l.map (Value.int .i64))) (hm _ (List.mem_cons_of_mem _ List.mem_cons_self)))
  exact ⟨rfl, Ak, ck, Al, cl, by simp only [ncell, nodeCells, hk, hl], hsk, hsl⟩
theorem nodes_at {w : World} {B base e n n' c : Nat} {A : Option Addr} {L : List Res} {nv : List NV} (h : Has w L) (hs : ∀ x ∈ nv, ∀ r ∈ nres B x, r ∈ L) (hr : w.ownsRow base e 5 (.slice A n' c) n (nv.map ncell).flatten) (hn : nv.length = n) : Nodes w A c (nv.map (·.1)) ∧ n' = n := by
  obtain ⟨A', c', hv, hsl, _⟩ := Sl.ofRow hr (Els.nodes h hs) (by simpa using hn)
  injection hv with h1 h2 h3
  subst h1; subst h2; subst h3
  refine ⟨?_, rfl⟩
  have hl : (nv.map (·.1)).length = n' := by simpa using hn
  unfold Nodes
  rw [hl]
  exact hsl
theorem info_str : (Tryd.prog.info? 9).map (fun i => (i.zero, i.size, i.bytes)) = some (some (.string ⟨#[]⟩), 1, 16) := by kernel_rfl
theorem info_node : (Tryd.prog.info? 45).map (fun i => (i.zero, i.size, i.bytes)) = some (some (.agg (nd 0 none 0 none 0)), 5, 80) := by kernel_rfl
theorem info_arr2 : (Tryd.prog.info? 28).map (fun i => (i.zero, i.size, i.bytes)) = some (some (.agg #[.int .i64 0, .int .i64 0]), 2, 16) := by kernel_rfl
theorem built_n4 (a b : Int) (s : ByteArray) (A : Option Addr) (n c : Nat) : Tryd.prog.built 45 [(0, .int .i64 a), (1, .int .i64 b), (2, .string s), (4, .slice A n c)] = some #[.int .i64 a, .int .i64 b, .string s, .slice none 0 0, .slice A n c] := by kernel_rfl
theorem fill_str1 (s : ByteArray) : Instr.fill (fun i => some (i * 1, 1)) ((List.range (1 * 1)).map ((Value.string ⟨#[]⟩).cells[· % (Value.string ⟨#[]⟩).cells.size]!)).toArray [(0, .string s)] = some #[.string s] := by rfl
theorem fill_node1 (a b : Int) (s : ByteArray) (u v : Value) : Instr.fill (fun i => some (i * 5, 5)) ((List.range (1 * 5)).map ((Value.agg (nd 0 none 0 none 0)).cells[· % (Value.agg (nd 0 none 0 none 0)).cells.size]!)).toArray [(0, .agg #[.int .i64 a, .int .i64 b, .string s, u, v])] = some #[.int .i64 a, .int .i64 b, .string s, u, v] := by kernel_rfl
theorem all5 {a b : Int} {s : ByteArray} {u v : Value} (h : u.oneCell' = true) (k : v.oneCell' = true) : ([.int .i64 a, .int .i64 b, .string s, u, v] : List Value).all Value.oneCell' = true := by
  simp only [List.all_cons, List.all_nil, h, k, Bool.and_true]
  rfl
theorem str_snoc (b e : Nat) (v : Value) (l : List ByteArray) (s : ByteArray) : Res.row b e 1 v (l.length + 1) (l.map Value.string ++ [.string s]) = .row b e 1 v (l ++ [s]).length ((l ++ [s]).map Value.string) := by simp
theorem nv_perm {α : Type} (a b c : α) (T : List α) : (a :: b :: c :: T).Perm (c :: (T ++ [a, b])) :=
  (List.Perm.append_right T (List.perm_append_comm (l₁ := [a, b]) (l₂ := [c]))).trans (List.Perm.cons c (List.perm_append_comm (l₁ := [a, b]) (l₂ := T)))
set_option maxHeartbeats 20000000 in
theorem cut_calls (w0 : World) (A : Option Addr) (c : Nat) (g : List GNode) (hg : Nodes w0 A c g) :
    Calls Tryd.prog 24 [.slice A g.length c].toArray w0 fun en w' => ∃ A' c', en = .returned (.slice A' (cutF g).length c') ∧ Nodes w' A' c' (cutF g) ∧ Ext0 w0 w' := by
  have hE : Ext0 w0 w0 := Ext.refl _ _
  have hL : Has w0 [] := trivial
  refine calls [2] Tryd.func24 rfl rfl rfl rfl ?_
  refine c_seq ?_
  -- region 0
  refine c_ops ?_
  refine l_val rfl rfl rfl (r_assign rfl) ?_
  refine l_nil ?_
  refine c_seq ?_
  -- region 1
  refine c_ops ?_
  refine l_val rfl rfl rfl (r_assign rfl) ?_
  refine l_nil ?_
  refine c_seq ?_
  refine c_seq ?_
  -- region 2
  refine c_ops ?_
  refine l_val rfl rfl rfl (r_assign rfl) ?_
  refine l_nil ?_
  refine c_block ?_
  -- loop 0: slots that it writes and that are read in it ahead of that: [4, 3]
  refine c_loop [3, 4, 5, 6, 7, 8, 9, 10, 11, 12, 13, 14, 15, 16, 17, 18, 19, 20, 21, 22, 23, 24, 25, 26, 27, 28, 29, 30, 31, 32, 33, 34, 35, 36, 37, 38, 39, 40, 41, 42, 43, 44, 45, 46, 47, 48, 49, 50, 51, 52, 53, 54, 55, 56, 57, 58, 59, 60, 61, 62, 63, 64, 65, 66, 67, 68, 69, 70, 71, 72, 73, 74, 75, 76, 77, 78, 79, 80, 81, 82, 83, 84, 85, 86, 87, 88, 89, 90, 91, 92, 93, 94, 95, 96] (fun m1 e w => ∃ (n : Nat) (out : Value) (nv : List NV), n ≤ g.length ∧ n ≤ 16 ∧ m1 = 16 - n ∧ e 4 = .int .i64 n ∧ e 3 = out ∧ nv.map (·.1) = (g.take n).map cutN ∧ Has w (.row w0.heap.size 45 5 out (nv).length ((nv).map ncell).flatten :: (nv).flatMap (nres w0.heap.size)) ∧ Ext0 w0 w) 16 ?_ ?_
  · exact ⟨0, .slice none 0 0, [], Nat.zero_le _, Nat.zero_le _, rfl, rfl, rfl, rfl, hL.nilRow _ _ _, hE⟩
  intro m1 e w hI
  obtain ⟨n, out, nv, hng, hn16', hmn, h4, h3, hnv, hL, hE⟩ := hI
  refine c_know h4 ?_
  refine c_know (t := 3) (by exact h3) ?_
  have hgm := hg.max
  have hnvl : nv.length = n := by have := congrArg List.length hnv; simpa [Nat.min_eq_left hng] using this
  refine c_seq ?_
  refine c_seq ?_
  -- region 3
  refine c_ops ?_
  refine l_val rfl rfl rfl (r_move rfl) ?_
  refine l_val rfl rfl rfl (r_move rfl) ?_
  refine l_val rfl rfl rfl (r_len rfl Tryd.underlying22 rfl) ?_
  refine l_val rfl rfl rfl (r_lss rfl rfl rfl) ?_
  refine l_val rfl rfl rfl (r_move rfl) ?_
  refine l_case 11 rfl (fun hb => ?_) (fun hb => ?_)
  · -- slot 11 is True
    have hr11 := hb
    replace hb := of_decide_eq_true hb
    have hnn : n < g.length := by omega
    refine l_val rfl rfl rfl (r_move rfl) ?_
    refine l_val rfl rfl rfl (r_lss rfl rfl rfl) ?_
    refine l_val rfl rfl rfl (r_pick rfl rfl) ?_
    refine l_nil ?_
    refine c_cond rfl (fun hb => ?_) (fun hb => ?_)
    · -- True
      have hr14 := hb
      replace hb := of_decide_eq_true hb
      have hn16 : n < 16 := by omega
      obtain ⟨Ak, ck, Al, cl, hcell, hks, hls⟩ := hg.node n (by omega) (by omega)
      have hlm := hls.max
      have hkm := hks.max
      refine c_skip ?_
      refine c_seq ?_
      refine c_block ?_
      refine c_merge [5, 17, 18, 19, 20, 21, 22, 23, 24, 25, 26, 27, 28, 29, 30, 31, 32, 33, 34, 35, 36, 37, 38, 39, 40, 41, 42, 43, 44, 45, 46, 47, 48, 49, 50, 51, 52, 53, 54] (fun e w => ∃ (b5 cl2 : Nat) (Al2 : Option Addr), w0.heap.size ≤ b5 ∧ e 5 = .pointer (some ⟨b5, 0, none⟩) ∧ Has w (.blk b5 (.cells #[.int .i64 (gat g n).kind, .int .i64 (gat g n).num, .string (cutS (gat g n).name), .slice none 0 0, (Value.slice Al2 ((gat g n).l.take 12).length cl2)] 45 (0, 0)) :: .row w0.heap.size 3 1 (Value.slice Al2 ((gat g n).l.take 12).length cl2) ((gat g n).l.take 12).length (((gat g n).l.take 12).map (Value.int .i64)) :: .row w0.heap.size 45 5 out (nv).length ((nv).map ncell).flatten :: (nv).flatMap (nres w0.heap.size)) ∧ Ext0 w0 w) ?_ ?_
      · -- merged
        -- region 5
        refine c_draw mixed (hL) hE ?_
        replace hL := hL.drew
        replace hE := hE.drew
        have hK := hL
        refine h_t 0 rfl rfl (by kernel_rfl) (fun _ _ _ h => h) ⟨hK, hE⟩ rfl (fun W hW => r_move rfl) ?_
        refine h_t 1 rfl rfl (by kernel_rfl) (fun _ _ _ h => h) ⟨hK, hE⟩ rfl (fun W hW => r_move rfl) ?_
        refine h_t 2 rfl rfl (by kernel_rfl) (fun _ _ _ h => h) ⟨hK, hE⟩ rfl (fun W hW => r_indexAddr_sl rfl Tryd.underlying22 Tryd.sizeOf45 rfl hg.is rfl (by omega) (by omega)) ?_
        refine h_t 3 rfl rfl (by kernel_rfl) (fun _ _ _ h => h) ⟨hK, hE⟩ rfl (fun W hW => r_fieldAddr (n := 0) rfl Tryd.underlying45 rfl Tryd.sizeOf3 rfl) ?_
        refine h_t 4 rfl rfl (by kernel_rfl) (fun _ _ _ h => h) ⟨hK, hE⟩ rfl (fun W hW => r_load rfl Tryd.isAgg3 rfl (Ext0.cells hW.2 _ _ (hcell 0 _ rfl))) ?_
        refine h_t 5 rfl rfl (by kernel_rfl) (fun _ _ _ h => h) ⟨hK, hE⟩ rfl (fun W hW => r_move rfl) ?_
        refine h_t 6 rfl rfl (by kernel_rfl) (fun _ _ _ h => h) ⟨hK, hE⟩ rfl (fun W hW => r_move rfl) ?_
        refine h_t 7 rfl rfl (by kernel_rfl) (fun _ _ _ h => h) ⟨hK, hE⟩ rfl (fun W hW => r_indexAddr_sl rfl Tryd.underlying22 Tryd.sizeOf45 rfl hg.is rfl (by omega) (by omega)) ?_
        refine h_t 8 rfl rfl (by kernel_rfl) (fun _ _ _ h => h) ⟨hK, hE⟩ rfl (fun W hW => r_fieldAddr (n := 0) rfl Tryd.underlying45 rfl Tryd.sizeOf3 rfl) ?_
        refine h_t 9 rfl rfl (by kernel_rfl) (fun _ _ _ h => h) ⟨hK, hE⟩ rfl (fun W hW => r_load rfl Tryd.isAgg3 rfl (Ext0.cells hW.2 _ _ (hcell 1 _ rfl))) ?_
        refine h_t 10 rfl rfl (by kernel_rfl) (fun _ _ _ h => h) ⟨hK, hE⟩ rfl (fun W hW => r_move rfl) ?_
        refine h_t 11 rfl rfl (by kernel_rfl) (fun _ _ _ h => h) ⟨hK, hE⟩ rfl (fun W hW => r_move rfl) ?_
        refine h_t 12 rfl rfl (by kernel_rfl) (fun _ _ _ h => h) ⟨hK, hE⟩ rfl (fun W hW => r_indexAddr_sl rfl Tryd.underlying22 Tryd.sizeOf45 rfl hg.is rfl (by omega) (by omega)) ?_
        refine h_t 13 rfl rfl (by kernel_rfl) (fun _ _ _ h => h) ⟨hK, hE⟩ rfl (fun W hW => r_fieldAddr (n := 0) rfl Tryd.underlying45 rfl Tryd.sizeOf9 rfl) ?_
        refine h_t 14 rfl rfl (by kernel_rfl) (fun _ _ _ h => h) ⟨hK, hE⟩ rfl (fun W hW => r_load rfl Tryd.isAgg9 rfl (Ext0.cells hW.2 _ _ (hcell 2 _ rfl))) ?_
        refine h_t 15 rfl rfl (by kernel_rfl) (fun _ _ _ h => h) ⟨hK, hE⟩ rfl (fun W hW => r_move rfl) ?_
        refine h_t 16 rfl rfl (by kernel_rfl) (fun _ _ _ h => h) ⟨hK, hE⟩ rfl (fun W hW => r_move rfl) ?_
        refine h_t 17 rfl rfl (by kernel_rfl) (fun _ _ _ h => h) ⟨hK, hE⟩ rfl (fun W hW => r_indexAddr_sl rfl Tryd.underlying22 Tryd.sizeOf45 rfl hg.is rfl (by omega) (by omega)) ?_
        refine h_t 18 rfl rfl (by kernel_rfl) (fun _ _ _ h => h) ⟨hK, hE⟩ rfl (fun W hW => r_fieldAddr (n := 0) rfl Tryd.underlying45 rfl Tryd.sizeOf9 rfl) ?_
        refine h_t 19 rfl rfl (by kernel_rfl) (fun _ _ _ h => h) ⟨hK, hE⟩ rfl (fun W hW => r_load rfl Tryd.isAgg9 rfl (Ext0.cells hW.2 _ _ (hcell 2 _ rfl))) ?_
        refine h_t 20 rfl rfl (by kernel_rfl) (fun _ _ _ h => h) ⟨hK, hE⟩ rfl (fun W hW => r_len_str rfl Tryd.underlying9 rfl) ?_
        refine h_t 21 rfl rfl (by kernel_rfl) (fun _ _ _ h => h) ⟨hK, hE⟩ rfl (fun W hW => r_min rfl rfl rfl) ?_
        refine h_t 22 rfl rfl (by kernel_rfl) (fun _ _ _ h => h) ⟨hK, hE⟩ rfl (fun W hW => r_cutS rfl Tryd.underlying9 rfl rfl) ?_
        refine h_t 23 rfl rfl (by kernel_rfl) (fun _ _ _ h => h) ⟨hK, hE⟩ rfl (fun W hW => r_move rfl) ?_
        refine h_t 24 rfl rfl (by kernel_rfl) (fun _ _ _ h => h) ⟨hK, hE⟩ rfl (fun W hW => r_move rfl) ?_
        refine h_t 25 rfl rfl (by kernel_rfl) (fun _ _ _ h => h) ⟨hK, hE⟩ rfl (fun W hW => r_indexAddr_sl rfl Tryd.underlying22 Tryd.sizeOf45 rfl hg.is rfl (by omega) (by omega)) ?_
        refine h_t 26 rfl rfl (by kernel_rfl) (fun _ _ _ h => h) ⟨hK, hE⟩ rfl (fun W hW => r_fieldAddr (n := 0) rfl Tryd.underlying45 rfl Tryd.sizeOf30 rfl) ?_
        refine h_t 27 rfl rfl (by kernel_rfl) (fun _ _ _ h => h) ⟨hK, hE⟩ rfl (fun W hW => r_load rfl Tryd.isAgg30 rfl (Ext0.cells hW.2 _ _ (hcell 4 _ rfl))) ?_
        refine h_t 28 rfl rfl (by kernel_rfl) (fun _ _ _ h => h) ⟨hK, hE⟩ rfl (fun W hW => r_move rfl) ?_
        refine h_t 29 rfl rfl (by kernel_rfl) (fun _ _ _ h => h) ⟨hK, hE⟩ rfl (fun W hW => r_move rfl) ?_
        refine h_t 30 rfl rfl (by kernel_rfl) (fun _ _ _ h => h) ⟨hK, hE⟩ rfl (fun W hW => r_indexAddr_sl rfl Tryd.underlying22 Tryd.sizeOf45 rfl hg.is rfl (by omega) (by omega)) ?_
        refine h_t 31 rfl rfl (by kernel_rfl) (fun _ _ _ h => h) ⟨hK, hE⟩ rfl (fun W hW => r_fieldAddr (n := 0) rfl Tryd.underlying45 rfl Tryd.sizeOf30 rfl) ?_
        refine h_t 32 rfl rfl (by kernel_rfl) (fun _ _ _ h => h) ⟨hK, hE⟩ rfl (fun W hW => r_load rfl Tryd.isAgg30 rfl (Ext0.cells hW.2 _ _ (hcell 4 _ rfl))) ?_
        refine h_t 33 rfl rfl (by kernel_rfl) (fun _ _ _ h => h) ⟨hK, hE⟩ rfl (fun W hW => r_len rfl Tryd.underlying30 rfl) ?_
        refine h_t 34 rfl rfl (by kernel_rfl) (fun _ _ _ h => h) ⟨hK, hE⟩ rfl (fun W hW => r_min rfl rfl rfl) ?_
        refine h_t 35 rfl rfl (by kernel_rfl) (fun _ _ _ h => h) ⟨hK, hE⟩ rfl (fun W hW => r_cutL rfl Tryd.underlying30 Tryd.sizeOf3 rfl rfl hls.cap) ?_
        refine h_many [36, 38] (by kernel_rfl) ⟨?_, ?_, trivial⟩
        · -- operation 36 first
          refine o_by 36 rfl rfl rfl rfl (r_call rfl rfl Tryd.func17 rfl rfl) (CopyInts_calls _ Al (min (gat g n).l.length 12) cl ((gat g n).l.take 12) ((hls.keep RInt.kept (Ext0.cells hE)).take 12) (by omega)) ?_   -- law.go:16 slot 53 := (call {callee=(value (func 17)), args=[(tmp 52)], argTypes=[30]})
          rintro _ w ⟨lv0, rfl, hrow, hX⟩
          rw [show min (gat g n).l.length 12 = ((gat g n).l.take 12).length from by rw [List.length_take, Nat.min_comm]] at hrow
          have h1l := one_row hrow
          obtain ⟨Al2, cl2, rfl⟩ := ownsRow_slice hrow
          replace hL := hL.cons hX (r := .row w0.heap.size 3 1 (Value.slice Al2 ((gat g n).l.take 12).length cl2) ((gat g n).l.take 12).length (((gat g n).l.take 12).map (Value.int .i64))) (ownsRow_base hrow hE.size) (fun b hb => (ownsRow_lt hrow hb).2)
          replace hE := hE.step0 hX
          have hK := hL.sub (.cons _ (.cons_cons _ (.refl _)))
          refine ⟨_, rfl, ⟨hK, hE⟩, ?_⟩
          refine h_t 37 rfl rfl (by kernel_rfl) (fun _ _ _ h => h) ⟨hK, hE⟩ rfl (fun W hW => r_build rfl rfl (built_n4 _ _ _ _ _ _)) ?_   -- law.go:16 slot 54 := (build 45 [(0, (tmp 21)), (1, (tmp 26)), (2, (tmp 39)), (4, (tmp 53))])
          refine h_new 38 rfl rfl (by kernel_rfl) rfl (n_alloc rfl Tryd.zeroValue45 hL hE) ?_
          rintro _ w ⟨b5, rfl, hb5, hL, hE, hX⟩
          have hK := hL.sub (.cons _ (.cons _ (.cons_cons _ (.refl _))))
          refine ⟨⟨hK, hE⟩, ?_⟩
          refine h_new_do 39 rfl rfl (by kernel_rfl) rfl (r_store 0 rfl Tryd.sizeOf45 rfl hL hE rfl rfl rfl rfl (fun h => absurd h (Nat.not_lt.2 hb5))) ?_
          rintro w ⟨hL, hE, hz, hk⟩
          have hK := hL.sub (.cons _ (.cons _ (.cons_cons _ (.refl _))))
          refine ⟨⟨hK, hE⟩, ?_⟩
          refine h_done (by kernel_rfl) ?_
          refine ⟨by repeat (first | exact Agree.over _ _ _ | exact Agree.refl _ _ | (refine Agree.puto ?_ _ _ rfl) | (refine Agree.put ?_ _ _ rfl) | (refine Agree.sub ?_ rfl)), ?_⟩
          exact ⟨b5, cl2, Al2, hb5, rfl, (((hL.front 2 rfl).front 2 rfl).front 2 rfl), hE⟩
        · -- operation 38 first
          refine o_new 38 rfl rfl rfl rfl (n_alloc rfl Tryd.zeroValue45 hL hE) ?_
          rintro _ w ⟨b5, rfl, hb5, hL, hE, hX⟩
          have hK := hL.sub (.cons _ (.cons_cons _ (.refl _)))
          refine ⟨⟨hK, hE⟩, ?_⟩
          refine h_by 36 rfl rfl (by kernel_rfl) rfl (r_call rfl rfl Tryd.func17 rfl rfl) (CopyInts_calls _ Al (min (gat g n).l.length 12) cl ((gat g n).l.take 12) ((hls.keep RInt.kept (Ext0.cells hE)).take 12) (by omega)) ?_   -- law.go:16 slot 53 := (call {callee=(value (func 17)), args=[(tmp 52)], argTypes=[30]})
          rintro _ w ⟨lv0, rfl, hrow, hX⟩
          rw [show min (gat g n).l.length 12 = ((gat g n).l.take 12).length from by rw [List.length_take, Nat.min_comm]] at hrow
          have h1l := one_row hrow
          obtain ⟨Al2, cl2, rfl⟩ := ownsRow_slice hrow
          replace hL := hL.cons hX (r := .row w0.heap.size 3 1 (Value.slice Al2 ((gat g n).l.take 12).length cl2) ((gat g n).l.take 12).length (((gat g n).l.take 12).map (Value.int .i64))) (ownsRow_base hrow hE.size) (fun b hb => (ownsRow_lt hrow hb).2)
          replace hE := hE.step0 hX
          have hK := hL.sub (.cons _ (.cons _ (.cons_cons _ (.refl _))))
          refine ⟨_, rfl, ⟨hK, hE⟩, ?_⟩
          refine h_t 37 rfl rfl (by kernel_rfl) (fun _ _ _ h => h) ⟨hK, hE⟩ rfl (fun W hW => r_build rfl rfl (built_n4 _ _ _ _ _ _)) ?_   -- law.go:16 slot 54 := (build 45 [(0, (tmp 21)), (1, (tmp 26)), (2, (tmp 39)), (4, (tmp 53))])
          refine h_new_do 39 rfl rfl (by kernel_rfl) rfl (r_store 1 rfl Tryd.sizeOf45 rfl hL hE rfl rfl rfl rfl (fun h => absurd h (Nat.not_lt.2 hb5))) ?_
          rintro w ⟨hL, hE, hz, hk⟩
          have hK := hL.sub (.cons _ (.cons _ (.cons_cons _ (.refl _))))
          refine ⟨⟨hK, hE⟩, ?_⟩
          refine h_done (by kernel_rfl) ?_
          refine ⟨by repeat (first | exact Agree.over _ _ _ | exact Agree.refl _ _ | (refine Agree.puto ?_ _ _ rfl) | (refine Agree.put ?_ _ _ rfl) | (refine Agree.sub ?_ rfl)), ?_⟩
          exact ⟨b5, cl2, Al2, hb5, rfl, (((hL.front 2 rfl).front 1 rfl).front 2 rfl), hE⟩
      rintro e w hI
      obtain ⟨b5, cl2, Al2, hb5, h5, hL, hE⟩ := hI
      refine c_know (t := 5) (by exact h5) ?_
      have h1l : Value.oneCell' (Value.slice Al2 ((gat g n).l.take 12).length cl2) = true := rfl
      refine c_seq ?_
      refine c_seq ?_
      -- region 6
      refine c_ops ?_
      refine l_val rfl rfl rfl (r_assign rfl) ?_
      refine l_nil ?_
      refine c_block ?_
      -- loop 1: slots that it writes and that are read in it ahead of that: [6]
      refine c_loop [6, 55, 56, 57, 58, 59, 60, 61, 62, 63, 64, 65, 66, 67, 68, 69, 70, 71, 72, 73, 74, 75, 76, 77, 78, 79, 80, 81, 82, 83, 84, 85, 86, 87, 88, 89, 90, 91, 92] (fun m1 e w => ∃ (k : Nat) (kv : Value), k ≤ (gat g n).keys.length ∧ k ≤ 12 ∧ m1 = 12 - k ∧ e 6 = .int .i64 k ∧ kv.oneCell' = true ∧ Has w (.blk b5 (.cells #[.int .i64 (gat g n).kind, .int .i64 (gat g n).num, .string (cutS (gat g n).name), kv, (Value.slice Al2 ((gat g n).l.take 12).length cl2)] 45 (0, 0)) :: .row w0.heap.size 9 1 kv (((gat g n).keys.take k).map cutS).length ((((gat g n).keys.take k).map cutS).map Value.string) :: .row w0.heap.size 3 1 (Value.slice Al2 ((gat g n).l.take 12).length cl2) ((gat g n).l.take 12).length (((gat g n).l.take 12).map (Value.int .i64)) :: .row w0.heap.size 45 5 out (nv).length ((nv).map ncell).flatten :: (nv).flatMap (nres w0.heap.size)) ∧ Ext0 w0 w) 12 ?_ ?_
      · exact ⟨0, .slice none 0 0, Nat.zero_le _, Nat.zero_le _, rfl, rfl, rfl, Has.perm (List.Perm.swap _ _ _) (hL.nilRow w0.heap.size 9 1), hE⟩
      intro m1 e w hI
      obtain ⟨k, kv, hkl, hk12', hmk, h6, h1k, hL, hE⟩ := hI
      refine c_know h6 ?_
      refine c_seq ?_
      refine c_seq ?_
      -- region 7
      refine c_ops ?_
      refine l_val rfl rfl rfl (r_move rfl) ?_
      refine l_val rfl rfl rfl (r_move rfl) ?_
      refine l_val rfl rfl rfl (r_move rfl) ?_
      refine l_val rfl rfl rfl (r_indexAddr_sl rfl Tryd.underlying22 Tryd.sizeOf45 rfl hg.is rfl (by omega) (by omega)) ?_
      refine l_val rfl rfl rfl (r_fieldAddr (n := 0) rfl Tryd.underlying45 rfl Tryd.sizeOf43 rfl) ?_
      refine l_val rfl rfl rfl (r_load rfl Tryd.isAgg43 rfl (Ext0.cells hE _ _ (hcell 3 _ rfl))) ?_
      refine l_val rfl rfl rfl (r_len rfl Tryd.underlying43 rfl) ?_
      refine l_val rfl rfl rfl (r_lss rfl rfl rfl) ?_
      refine l_val rfl rfl rfl (r_move rfl) ?_
      refine l_case 63 rfl (fun hb => ?_) (fun hb => ?_)
      · -- slot 63 is True
        have hr63 := hb
        replace hb := of_decide_eq_true hb
        have hkn : k < (gat g n).keys.length := by omega
        refine l_val rfl rfl rfl (r_move rfl) ?_
        refine l_val rfl rfl rfl (r_lss rfl rfl rfl) ?_
        refine l_val rfl rfl rfl (r_pick rfl rfl) ?_
        refine l_nil ?_
        refine c_cond rfl (fun hb => ?_) (fun hb => ?_)
        · -- True
          have hr66 := hb
          replace hb := of_decide_eq_true hb
          have hk12 : k < 12 := by omega
          have hsk := sat_nat hkn
          refine c_skip ?_
          refine c_merge [69, 70, 71, 72, 73, 74, 75, 76, 77, 78, 79, 80, 81, 82, 83, 84, 85, 86, 87, 88, 89, 90, 91, 92] (fun e w => ∃ kv, kv.oneCell' = true ∧ Has w (.blk b5 (.cells #[.int .i64 (gat g n).kind, .int .i64 (gat g n).num, .string (cutS (gat g n).name), kv, (Value.slice Al2 ((gat g n).l.take 12).length cl2)] 45 (0, 0)) :: .row w0.heap.size 9 1 kv (((gat g n).keys.take (k + 1)).map cutS).length ((((gat g n).keys.take (k + 1)).map cutS).map Value.string) :: .row w0.heap.size 3 1 (Value.slice Al2 ((gat g n).l.take 12).length cl2) ((gat g n).l.take 12).length (((gat g n).l.take 12).map (Value.int .i64)) :: .row w0.heap.size 45 5 out (nv).length ((nv).map ncell).flatten :: (nv).flatMap (nres w0.heap.size)) ∧ Ext0 w0 w) ?_ ?_
          · -- merged
            refine c_block ?_
            -- region 9
            refine c_draw mixed (hL.sub (.cons _ (.cons _ (.cons_cons _ (.cons_cons _ (.refl _)))))) hE ?_
            replace hL := hL.drew
            replace hE := hE.drew
            have hK := hL.sub (.cons _ (.cons _ (.cons_cons _ (.cons_cons _ (.refl _)))))
            refine h_t 0 rfl rfl (by kernel_rfl) (fun _ _ _ h => h) ⟨hK, hE⟩ rfl (fun W hW => r_fieldAddr (n := 0) rfl Tryd.underlying45 rfl Tryd.sizeOf43 rfl) ?_
            refine h_t 2 rfl rfl (by kernel_rfl) (fun _ _ _ h => h) ⟨hK, hE⟩ rfl (fun W hW => r_move rfl) ?_
            refine h_t 3 rfl rfl (by kernel_rfl) (fun _ _ _ h => h) ⟨hK, hE⟩ rfl (fun W hW => r_move rfl) ?_
            refine h_t 4 rfl rfl (by kernel_rfl) (fun _ _ _ h => h) ⟨hK, hE⟩ rfl (fun W hW => r_indexAddr_sl rfl Tryd.underlying22 Tryd.sizeOf45 rfl hg.is rfl (by omega) (by omega)) ?_
            refine h_t 5 rfl rfl (by kernel_rfl) (fun _ _ _ h => h) ⟨hK, hE⟩ rfl (fun W hW => r_fieldAddr (n := 0) rfl Tryd.underlying45 rfl Tryd.sizeOf43 rfl) ?_
            refine h_t 6 rfl rfl (by kernel_rfl) (fun _ _ _ h => h) ⟨hK, hE⟩ rfl (fun W hW => r_load rfl Tryd.isAgg43 rfl (Ext0.cells hW.2 _ _ (hcell 3 _ rfl))) ?_
            refine h_t 7 rfl rfl (by kernel_rfl) (fun _ _ _ h => h) ⟨hK, hE⟩ rfl (fun W hW => r_move rfl) ?_
            refine h_t 8 rfl rfl (by kernel_rfl) (fun _ _ _ h => h) ⟨hK, hE⟩ rfl (fun W hW => r_indexAddr_sl rfl Tryd.underlying43 Tryd.sizeOf9 rfl hks.is rfl (by omega) (by omega)) ?_
            refine h_t 9 rfl rfl (by kernel_rfl) (fun _ _ _ h => h) ⟨hK, hE⟩ rfl (fun W hW => r_load (v := .string ((gat g n).keys.getD (k : Int).toNat ByteArray.empty)) rfl Tryd.isAgg9 rfl (Ext0.cells hW.2 _ _ (hks.str k (by omega) (by omega)))) ?_
            refine h_t 10 rfl rfl (by kernel_rfl) (fun _ _ _ h => h) ⟨hK, hE⟩ rfl (fun W hW => r_move rfl) ?_
            refine h_t 11 rfl rfl (by kernel_rfl) (fun _ _ _ h => h) ⟨hK, hE⟩ rfl (fun W hW => r_move rfl) ?_
            refine h_t 12 rfl rfl (by kernel_rfl) (fun _ _ _ h => h) ⟨hK, hE⟩ rfl (fun W hW => r_indexAddr_sl rfl Tryd.underlying22 Tryd.sizeOf45 rfl hg.is rfl (by omega) (by omega)) ?_
            refine h_t 13 rfl rfl (by kernel_rfl) (fun _ _ _ h => h) ⟨hK, hE⟩ rfl (fun W hW => r_fieldAddr (n := 0) rfl Tryd.underlying45 rfl Tryd.sizeOf43 rfl) ?_
            refine h_t 14 rfl rfl (by kernel_rfl) (fun _ _ _ h => h) ⟨hK, hE⟩ rfl (fun W hW => r_load rfl Tryd.isAgg43 rfl (Ext0.cells hW.2 _ _ (hcell 3 _ rfl))) ?_
            refine h_t 15 rfl rfl (by kernel_rfl) (fun _ _ _ h => h) ⟨hK, hE⟩ rfl (fun W hW => r_move rfl) ?_
            refine h_t 16 rfl rfl (by kernel_rfl) (fun _ _ _ h => h) ⟨hK, hE⟩ rfl (fun W hW => r_indexAddr_sl rfl Tryd.underlying43 Tryd.sizeOf9 rfl hks.is rfl (by omega) (by omega)) ?_
            refine h_t 17 rfl rfl (by kernel_rfl) (fun _ _ _ h => h) ⟨hK, hE⟩ rfl (fun W hW => r_load (v := .string ((gat g n).keys.getD (k : Int).toNat ByteArray.empty)) rfl Tryd.isAgg9 rfl (Ext0.cells hW.2 _ _ (hks.str k (by omega) (by omega)))) ?_
            refine h_t 18 rfl rfl (by kernel_rfl) (fun _ _ _ h => h) ⟨hK, hE⟩ rfl (fun W hW => r_len_str rfl Tryd.underlying9 rfl) ?_
            refine h_t 19 rfl rfl (by kernel_rfl) (fun _ _ _ h => h) ⟨hK, hE⟩ rfl (fun W hW => r_min rfl rfl rfl) ?_
            refine h_t 20 rfl rfl (by kernel_rfl) (fun _ _ _ h => h) ⟨hK, hE⟩ rfl (fun W hW => r_cutS rfl Tryd.underlying9 rfl rfl) ?_
            refine h_many [1, 21] (by kernel_rfl) ⟨?_, ?_, trivial⟩
            · -- operation 1 first
              refine o_val 1 rfl rfl rfl rfl (r_load_blk rfl Tryd.isAgg43 rfl (hL.get 0 rfl) rfl) ⟨hK, hE⟩ ?_
              refine h_new 21 rfl rfl (by kernel_rfl) rfl (n_slice (cells := #[.string (cutS ((gat g n).keys.getD (k : Int).toNat ByteArray.empty))]) rfl Tryd.underlying43 Tryd.sizeOf9 Tryd.zeroValue9 rfl rfl (fill_str1 _) hL hE) ?_
              rintro _ w ⟨s90, rfl, hs90, hL, hE, hX⟩
              have hK := hL.sub (.cons _ (.cons _ (.cons _ (.cons_cons _ (.cons_cons _ (.refl _))))))
              refine ⟨⟨hK, hE⟩, ?_⟩
              refine h_new 22 rfl rfl (by kernel_rfl) rfl (r_append (ys := [.string (cutS ((gat g n).keys.getD (k : Int).toNat ByteArray.empty))]) 2 rfl Tryd.underlying43 info_str rfl (by decide) rfl rfl hL hE rfl rfl (blk_raw (cs := #[.string (cutS ((gat g n).keys.getD (k : Int).toNat ByteArray.empty))]) (hL.get 0 rfl) rfl) (fun u hu => by rw [List.mem_singleton] at hu; rw [hu]; rfl) (by simp; omega) (by simp; omega) (Nat.le_refl _) hE.size) ?_
              rintro _ w ⟨hL, hE, hk⟩
              have h1k2 := one_row (hL.row 2 rfl)
              obtain ⟨A4, c4, rfl⟩ := ownsRow_slice (hL.row 2 rfl)
              replace hL : Has w (.blk s90 (.cells #[.string (cutS ((gat g n).keys.getD (k : Int).toNat ByteArray.empty))] 9 (0, 0)) :: .blk b5 (.cells #[.int .i64 (gat g n).kind, .int .i64 (gat g n).num, .string (cutS (gat g n).name), kv, (Value.slice Al2 ((gat g n).l.take 12).length cl2)] 45 (0, 0)) :: .row w0.heap.size 9 1 (Value.slice A4 ((((gat g n).keys.take k).map cutS).length + 1) c4) ((((gat g n).keys.take k).map cutS) ++ [(cutS ((gat g n).keys.getD (k : Int).toNat ByteArray.empty))]).length (((((gat g n).keys.take k).map cutS) ++ [(cutS ((gat g n).keys.getD (k : Int).toNat ByteArray.empty))]).map Value.string) :: .row w0.heap.size 3 1 (Value.slice Al2 ((gat g n).l.take 12).length cl2) ((gat g n).l.take 12).length (((gat g n).l.take 12).map (Value.int .i64)) :: .row w0.heap.size 45 5 out (nv).length ((nv).map ncell).flatten :: (nv).flatMap (nres w0.heap.size)) := by rw [← str_snoc]; exact hL
              have hK := hL.sub (.cons _ (.cons _ (.cons _ (.cons_cons _ (.cons_cons _ (.refl _))))))
              refine ⟨⟨hK, hE⟩, ?_⟩
              refine h_t 23 rfl rfl (by kernel_rfl) (fun _ _ _ h => h) ⟨hK, hE⟩ rfl (fun W hW => r_fieldAddr (n := 0) rfl Tryd.underlying45 rfl Tryd.sizeOf43 rfl) ?_
              refine h_new_do 24 rfl rfl (by kernel_rfl) rfl (r_store 1 rfl Tryd.sizeOf43 rfl hL hE rfl rfl rfl rfl (fun h => absurd h (Nat.not_lt.2 hb5))) ?_
              rintro w ⟨hL, hE, hz, hk⟩
              have hK := hL.sub (.cons _ (.cons _ (.cons _ (.cons_cons _ (.cons_cons _ (.refl _))))))
              refine ⟨⟨hK, hE⟩, ?_⟩
              refine h_done (by kernel_rfl) ?_
              refine ⟨by repeat (first | exact Agree.over _ _ _ | exact Agree.refl _ _ | (refine Agree.puto ?_ _ _ rfl) | (refine Agree.put ?_ _ _ rfl) | (refine Agree.sub ?_ rfl)), ?_⟩
              exact ⟨(Value.slice A4 ((((gat g n).keys.take k).map cutS).length + 1) c4), h1k2, by rw [take_snoc hsk, List.map_append (f := cutS)]; exact hL.tail, hE⟩
            · -- operation 21 first
              refine o_new 21 rfl rfl rfl rfl (n_slice (cells := #[.string (cutS ((gat g n).keys.getD (k : Int).toNat ByteArray.empty))]) rfl Tryd.underlying43 Tryd.sizeOf9 Tryd.zeroValue9 rfl rfl (fill_str1 _) hL hE) ?_
              rintro _ w ⟨s90, rfl, hs90, hL, hE, hX⟩
              have hK := hL.sub (.cons _ (.cons _ (.cons _ (.cons_cons _ (.cons_cons _ (.refl _))))))
              refine ⟨⟨hK, hE⟩, ?_⟩
              refine h_one 1 rfl rfl (by kernel_rfl) rfl (r_load_blk rfl Tryd.isAgg43 rfl (hL.get 1 rfl) rfl) ⟨hK, hE⟩ ?_
              refine h_new 22 rfl rfl (by kernel_rfl) rfl (r_append (ys := [.string (cutS ((gat g n).keys.getD (k : Int).toNat ByteArray.empty))]) 2 rfl Tryd.underlying43 info_str rfl (by decide) rfl rfl hL hE rfl rfl (blk_raw (cs := #[.string (cutS ((gat g n).keys.getD (k : Int).toNat ByteArray.empty))]) (hL.get 0 rfl) rfl) (fun u hu => by rw [List.mem_singleton] at hu; rw [hu]; rfl) (by simp; omega) (by simp; omega) (Nat.le_refl _) hE.size) ?_
              rintro _ w ⟨hL, hE, hk⟩
              have h1k2 := one_row (hL.row 2 rfl)
              obtain ⟨A4, c4, rfl⟩ := ownsRow_slice (hL.row 2 rfl)
              replace hL : Has w (.blk s90 (.cells #[.string (cutS ((gat g n).keys.getD (k : Int).toNat ByteArray.empty))] 9 (0, 0)) :: .blk b5 (.cells #[.int .i64 (gat g n).kind, .int .i64 (gat g n).num, .string (cutS (gat g n).name), kv, (Value.slice Al2 ((gat g n).l.take 12).length cl2)] 45 (0, 0)) :: .row w0.heap.size 9 1 (Value.slice A4 ((((gat g n).keys.take k).map cutS).length + 1) c4) ((((gat g n).keys.take k).map cutS) ++ [(cutS ((gat g n).keys.getD (k : Int).toNat ByteArray.empty))]).length (((((gat g n).keys.take k).map cutS) ++ [(cutS ((gat g n).keys.getD (k : Int).toNat ByteArray.empty))]).map Value.string) :: .row w0.heap.size 3 1 (Value.slice Al2 ((gat g n).l.take 12).length cl2) ((gat g n).l.take 12).length (((gat g n).l.take 12).map (Value.int .i64)) :: .row w0.heap.size 45 5 out (nv).length ((nv).map ncell).flatten :: (nv).flatMap (nres w0.heap.size)) := by rw [← str_snoc]; exact hL
              have hK := hL.sub (.cons _ (.cons _ (.cons _ (.cons_cons _ (.cons_cons _ (.refl _))))))
              refine ⟨⟨hK, hE⟩, ?_⟩
              refine h_t 23 rfl rfl (by kernel_rfl) (fun _ _ _ h => h) ⟨hK, hE⟩ rfl (fun W hW => r_fieldAddr (n := 0) rfl Tryd.underlying45 rfl Tryd.sizeOf43 rfl) ?_
              refine h_new_do 24 rfl rfl (by kernel_rfl) rfl (r_store 1 rfl Tryd.sizeOf43 rfl hL hE rfl rfl rfl rfl (fun h => absurd h (Nat.not_lt.2 hb5))) ?_
              rintro w ⟨hL, hE, hz, hk⟩
              have hK := hL.sub (.cons _ (.cons _ (.cons _ (.cons_cons _ (.cons_cons _ (.refl _))))))
              refine ⟨⟨hK, hE⟩, ?_⟩
              refine h_done (by kernel_rfl) ?_
              refine ⟨by repeat (first | exact Agree.over _ _ _ | exact Agree.refl _ _ | (refine Agree.puto ?_ _ _ rfl) | (refine Agree.put ?_ _ _ rfl) | (refine Agree.sub ?_ rfl)), ?_⟩
              exact ⟨(Value.slice A4 ((((gat g n).keys.take k).map cutS).length + 1) c4), h1k2, by rw [take_snoc hsk, List.map_append (f := cutS)]; exact hL.tail, hE⟩
          rintro e w hI
          obtain ⟨kv, h1k, hL, hE⟩ := hI
          -- region 8
          refine c_ops ?_
          refine l_val rfl rfl rfl (r_move rfl) ?_
          refine l_val rfl rfl rfl (r_add rfl rfl rfl) ?_
          refine l_val rfl rfl rfl (r_assign rfl) ?_
          refine l_nil ?_
          refine ⟨by repeat (first | exact Agree.over _ _ _ | exact Agree.refl _ _ | (refine Agree.puto ?_ _ _ rfl) | (refine Agree.put ?_ _ _ rfl) | (refine Agree.sub ?_ rfl)), ?_⟩
          exact ⟨12 - (k + 1), by omega, k + 1, kv, by omega, by omega, rfl, by show Value.int .i64 (IntKind.i64.wrap ((k : Int) + 1)) = _; rw [wrap_succ hkn hkm], h1k, hL, hE⟩
        · -- False
          have hr66 := hb
          replace hb := of_decide_eq_false hb
          have hkk : (gat g n).keys.take k = (gat g n).keys.take 12 := by rw [show k = 12 by omega]
          refine c_exit ?_
          -- region 10
          refine c_ops ?_
          refine l_val rfl rfl rfl (r_move rfl) ?_
          refine l_val rfl rfl rfl (r_load_agg (vs := [.int .i64 (gat g n).kind, .int .i64 (gat g n).num, .string (cutS (gat g n).name), kv, (Value.slice Al2 ((gat g n).l.take 12).length cl2)]) rfl Tryd.isAgg45 Tryd.sizeOf45 rfl (blk_raw (cs := #[.int .i64 (gat g n).kind, .int .i64 (gat g n).num, .string (cutS (gat g n).name), kv, (Value.slice Al2 ((gat g n).l.take 12).length cl2)]) (hL.get 0 rfl) rfl)) ?_
          refine l_new rfl rfl rfl (n_slice (cells := #[.int .i64 (gat g n).kind, .int .i64 (gat g n).num, .string (cutS (gat g n).name), kv, (Value.slice Al2 ((gat g n).l.take 12).length cl2)]) rfl Tryd.underlying22 Tryd.sizeOf45 Tryd.zeroValue45 rfl rfl (fill_node1 _ _ _ _ _) hL hE) ?_
          rintro _ w ⟨s95, rfl, hs95, hL, hE, hX⟩
          refine l_new rfl rfl rfl (r_append (ys := ncell (cutN (gat g n), kv, (Value.slice Al2 ((gat g n).l.take 12).length cl2))) 4 rfl Tryd.underlying22 info_node rfl (by decide) rfl rfl hL hE rfl rfl (blk_raw (cs := #[.int .i64 (gat g n).kind, .int .i64 (gat g n).num, .string (cutS (gat g n).name), kv, (Value.slice Al2 ((gat g n).l.take 12).length cl2)]) (hL.get 0 rfl) rfl) (fun u hu => List.all_eq_true.1 (all5 h1k h1l) u hu) (by omega) (by omega) (Nat.le_refl _) hE.size) ?_
          rintro _ w ⟨hL, hE, hk⟩
          obtain ⟨A6, c6, rfl⟩ := ownsRow_slice (hL.row 4 rfl)
          replace hL : Has w (.blk s95 (.cells #[.int .i64 (gat g n).kind, .int .i64 (gat g n).num, .string (cutS (gat g n).name), kv, (Value.slice Al2 ((gat g n).l.take 12).length cl2)] 45 (0, 0)) :: .blk b5 (.cells #[.int .i64 (gat g n).kind, .int .i64 (gat g n).num, .string (cutS (gat g n).name), kv, (Value.slice Al2 ((gat g n).l.take 12).length cl2)] 45 (0, 0)) :: .row w0.heap.size 9 1 kv (((gat g n).keys.take 12).map cutS).length ((((gat g n).keys.take 12).map cutS).map Value.string) :: .row w0.heap.size 3 1 (Value.slice Al2 ((gat g n).l.take 12).length cl2) ((gat g n).l.take 12).length (((gat g n).l.take 12).map (Value.int .i64)) :: .row w0.heap.size 45 5 (.slice A6 (nv.length + 1) c6) (nv ++ [(cutN (gat g n), kv, (Value.slice Al2 ((gat g n).l.take 12).length cl2))]).length ((nv ++ [(cutN (gat g n), kv, (Value.slice Al2 ((gat g n).l.take 12).length cl2))]).map ncell).flatten :: (nv).flatMap (nres w0.heap.size)) := by rw [← ncells_snoc, List.length_append, ← hkk]; exact hL
          refine l_val rfl rfl rfl (r_assign rfl) ?_
          refine l_nil ?_
          -- region 4
          refine c_ops ?_
          refine l_val rfl rfl rfl (r_move rfl) ?_
          refine l_val rfl rfl rfl (r_add rfl rfl rfl) ?_
          refine l_val rfl rfl rfl (r_assign rfl) ?_
          refine l_nil ?_
          refine ⟨by repeat (first | exact Agree.over _ _ _ | exact Agree.refl _ _ | (refine Agree.puto ?_ _ _ rfl) | (refine Agree.put ?_ _ _ rfl) | (refine Agree.sub ?_ rfl)), ?_⟩
          refine ⟨16 - (n + 1), by omega, n + 1, (.slice A6 (nv.length + 1) c6), nv ++ [(cutN (gat g n), kv, (Value.slice Al2 ((gat g n).l.take 12).length cl2))], by omega, by omega, rfl, by show Value.int .i64 (IntKind.i64.wrap ((n : Int) + 1)) = _; rw [wrap_succ hnn hgm], rfl, by rw [take_snoc (gat_nat hnn), List.map_append, List.map_append, ← hnv]; rfl, ?_, hE⟩
          rw [List.flatMap_append]
          exact Has.perm (nv_perm _ _ _ _) hL.tail.tail
      · -- slot 63 is False
        have hr63 := hb
        replace hb := of_decide_eq_false hb
        have hkk : (gat g n).keys.take k = (gat g n).keys.take 12 := by rw [List.take_of_length_le (by omega), List.take_of_length_le (by omega)]
        refine l_not rfl rfl rfl ?_
        refine l_not rfl rfl rfl ?_
        refine l_val rfl rfl rfl (r_pick rfl rfl) ?_
        refine l_nil ?_
        refine c_no rfl ?_
        refine c_exit ?_
        -- region 10
        refine c_ops ?_
        refine l_val rfl rfl rfl (r_move rfl) ?_
        refine l_val rfl rfl rfl (r_load_agg (vs := [.int .i64 (gat g n).kind, .int .i64 (gat g n).num, .string (cutS (gat g n).name), kv, (Value.slice Al2 ((gat g n).l.take 12).length cl2)]) rfl Tryd.isAgg45 Tryd.sizeOf45 rfl (blk_raw (cs := #[.int .i64 (gat g n).kind, .int .i64 (gat g n).num, .string (cutS (gat g n).name), kv, (Value.slice Al2 ((gat g n).l.take 12).length cl2)]) (hL.get 0 rfl) rfl)) ?_
        refine l_new rfl rfl rfl (n_slice (cells := #[.int .i64 (gat g n).kind, .int .i64 (gat g n).num, .string (cutS (gat g n).name), kv, (Value.slice Al2 ((gat g n).l.take 12).length cl2)]) rfl Tryd.underlying22 Tryd.sizeOf45 Tryd.zeroValue45 rfl rfl (fill_node1 _ _ _ _ _) hL hE) ?_
        rintro _ w ⟨s95, rfl, hs95, hL, hE, hX⟩
        refine l_new rfl rfl rfl (r_append (ys := ncell (cutN (gat g n), kv, (Value.slice Al2 ((gat g n).l.take 12).length cl2))) 4 rfl Tryd.underlying22 info_node rfl (by decide) rfl rfl hL hE rfl rfl (blk_raw (cs := #[.int .i64 (gat g n).kind, .int .i64 (gat g n).num, .string (cutS (gat g n).name), kv, (Value.slice Al2 ((gat g n).l.take 12).length cl2)]) (hL.get 0 rfl) rfl) (fun u hu => List.all_eq_true.1 (all5 h1k h1l) u hu) (by omega) (by omega) (Nat.le_refl _) hE.size) ?_
        rintro _ w ⟨hL, hE, hk⟩
        obtain ⟨A6, c6, rfl⟩ := ownsRow_slice (hL.row 4 rfl)
        replace hL : Has w (.blk s95 (.cells #[.int .i64 (gat g n).kind, .int .i64 (gat g n).num, .string (cutS (gat g n).name), kv, (Value.slice Al2 ((gat g n).l.take 12).length cl2)] 45 (0, 0)) :: .blk b5 (.cells #[.int .i64 (gat g n).kind, .int .i64 (gat g n).num, .string (cutS (gat g n).name), kv, (Value.slice Al2 ((gat g n).l.take 12).length cl2)] 45 (0, 0)) :: .row w0.heap.size 9 1 kv (((gat g n).keys.take 12).map cutS).length ((((gat g n).keys.take 12).map cutS).map Value.string) :: .row w0.heap.size 3 1 (Value.slice Al2 ((gat g n).l.take 12).length cl2) ((gat g n).l.take 12).length (((gat g n).l.take 12).map (Value.int .i64)) :: .row w0.heap.size 45 5 (.slice A6 (nv.length + 1) c6) (nv ++ [(cutN (gat g n), kv, (Value.slice Al2 ((gat g n).l.take 12).length cl2))]).length ((nv ++ [(cutN (gat g n), kv, (Value.slice Al2 ((gat g n).l.take 12).length cl2))]).map ncell).flatten :: (nv).flatMap (nres w0.heap.size)) := by rw [← ncells_snoc, List.length_append, ← hkk]; exact hL
        refine l_val rfl rfl rfl (r_assign rfl) ?_
        refine l_nil ?_
        -- region 4
        refine c_ops ?_
        refine l_val rfl rfl rfl (r_move rfl) ?_
        refine l_val rfl rfl rfl (r_add rfl rfl rfl) ?_
        refine l_val rfl rfl rfl (r_assign rfl) ?_
        refine l_nil ?_
        refine ⟨by repeat (first | exact Agree.over _ _ _ | exact Agree.refl _ _ | (refine Agree.puto ?_ _ _ rfl) | (refine Agree.put ?_ _ _ rfl) | (refine Agree.sub ?_ rfl)), ?_⟩
        refine ⟨16 - (n + 1), by omega, n + 1, (.slice A6 (nv.length + 1) c6), nv ++ [(cutN (gat g n), kv, (Value.slice Al2 ((gat g n).l.take 12).length cl2))], by omega, by omega, rfl, by show Value.int .i64 (IntKind.i64.wrap ((n : Int) + 1)) = _; rw [wrap_succ hnn hgm], rfl, by rw [take_snoc (gat_nat hnn), List.map_append, List.map_append, ← hnv]; rfl, ?_, hE⟩
        rw [List.flatMap_append]
        exact Has.perm (nv_perm _ _ _ _) hL.tail.tail
    · -- False
      have hr14 := hb
      replace hb := of_decide_eq_false hb
      have hend : (g.take n).map cutN = cutF g := by unfold cutF; rw [show n = 16 by omega]
      refine c_exit ?_
      refine c_seq ?_
      -- region 11
      refine c_ops ?_
      refine l_val rfl rfl rfl (r_move rfl) ?_
      refine l_val rfl rfl rfl (r_assign rfl) ?_
      refine l_nil ?_
      refine c_ret ?_
      obtain ⟨A9, c9, rfl⟩ := ownsRow_slice (hL.row 0 rfl)
      have hns := (nodes_at (hL.sub (.cons _ (.refl _))) (fun x hx r hr => List.mem_flatMap.2 ⟨x, hx, hr⟩) (hL.row 0 rfl) rfl).1
      rw [hnv, hend] at hns
      exact ⟨A9, c9, congrArg (fun n => Ending.returned (.slice A9 n c9)) (show nv.length = (cutF g).length by rw [← hend, ← hnv, List.length_map]), hns, hE⟩
  · -- slot 11 is False
    have hr11 := hb
    replace hb := of_decide_eq_false hb
    have hend : (g.take n).map cutN = cutF g := by unfold cutF; rw [List.take_of_length_le (by omega), List.take_of_length_le (by omega)]
    refine l_not rfl rfl rfl ?_
    refine l_not rfl rfl rfl ?_
    refine l_val rfl rfl rfl (r_pick rfl rfl) ?_
    refine l_nil ?_
    refine c_no rfl ?_
    refine c_exit ?_
    refine c_seq ?_
    -- region 11
    refine c_ops ?_
    refine l_val rfl rfl rfl (r_move rfl) ?_
    refine l_val rfl rfl rfl (r_assign rfl) ?_
    refine l_nil ?_
    refine c_ret ?_
    obtain ⟨A9, c9, rfl⟩ := ownsRow_slice (hL.row 0 rfl)
    have hns := (nodes_at (hL.sub (.cons _ (.refl _))) (fun x hx r hr => List.mem_flatMap.2 ⟨x, hx, hr⟩) (hL.row 0 rfl) rfl).1
    rw [hnv, hend] at hns
    exact ⟨A9, c9, congrArg (fun n => Ending.returned (.slice A9 n c9)) (show nv.length = (cutF g).length by rw [← hend, ← hnv, List.length_map]), hns, hE⟩
/-- A graph that may be, cut small; else nothing. -/
def fineF (g : List GNode) : List GNode := if checkG (cutF g) = 0 then cutF g else []
theorem fineF_len (g : List GNode) : (fineF g).length ≤ 16 := by
  unfold fineF
  split
  · exact cutF_len g
  · simp
theorem fineF_fits (g : List GNode) : Fits (fineF g) := by
  unfold fineF
  split
  · exact cutF_fits g
  · exact ⟨fun x hx => by simp at hx, fun x hx => by simp at hx⟩
theorem fineF_check {g : List GNode} (h : fineF g ≠ []) : checkG (fineF g) = 0 := by
  unfold fineF at *
  split
  · rename_i h0; exact h0
  · rename_i h0; rw [if_neg h0] at h; exact absurd rfl h
theorem fine_calls (w0 : World) (hk0 : KeysLaid w0) (A : Option Addr) (c : Nat) (g : List GNode) (hg : Nodes w0 A c g) :
    Calls Tryd.prog 8 [.slice A g.length c].toArray w0 fun en w' => ∃ A' c', en = .returned (.slice A' (fineF g).length c') ∧ Nodes w' A' c' (fineF g) ∧ Ext0 w0 w' := by
  have hE : Ext0 w0 w0 := Ext.refl _ _
  have hL : Has w0 [] := trivial
  refine calls [2] Tryd.func8 rfl rfl rfl rfl ?_
  refine c_seq ?_
  -- region 0
  refine c_ops ?_
  refine l_val rfl rfl rfl (r_assign rfl) ?_
  refine l_nil ?_
  refine c_seq ?_
  -- region 1
  refine c_ops ?_
  refine l_val rfl rfl rfl (r_move rfl) ?_
  refine l_by rfl rfl rfl (r_call rfl rfl Tryd.func24 rfl rfl) (cut_calls _ A c g hg) ?_   -- outright.go:41 slot 4 := (call {callee=(value (func 24)), args=[(tmp 3)], argTypes=[22]})
  rintro _ w ⟨A1, c1, rfl, hn, hX⟩
  replace hE := hE.trans hX
  refine ⟨_, rfl, ?_⟩
  refine l_val rfl rfl rfl (r_assign rfl) ?_
  refine l_nil ?_
  refine c_seq ?_
  refine c_seq ?_
  -- region 2
  refine c_ops ?_
  refine l_val rfl rfl rfl (r_move rfl) ?_
  refine l_by rfl rfl rfl (r_call rfl rfl Tryd.func25 rfl rfl) (Check_calls _ A1 c1 (cutF g) hn (cutF_fits g) (hk0.keep (Ext0.cells hE))) ?_   -- outright.go:42 slot 6 := (call {callee=(value (func 25)), args=[(tmp 5)], argTypes=[22]})
  rintro _ w ⟨rfl, hX⟩
  replace hE := hE.trans hX
  replace hn := hn.keep RNode.kept (Ext0.cells hX)
  refine ⟨_, rfl, ?_⟩
  refine l_val rfl rfl rfl (r_neq rfl rfl rfl) ?_
  refine l_nil ?_
  refine c_cond rfl (fun hb => ?_) (fun hb => ?_)
  · -- True
    have hr7 := hb
    replace hb := of_decide_eq_false (by simpa using hb)
    have hf : fineF g = [] := by unfold fineF; rw [if_neg hb]
    refine c_seq ?_
    -- region 3
    refine c_ops ?_
    refine l_val rfl rfl rfl (r_assign rfl) ?_
    refine l_nil ?_
    refine c_ret ?_
    exact ⟨none, 0, congrArg (fun (l : List GNode) => Ending.returned (.slice none l.length 0)) hf.symm, hf ▸ Sl.nil _ _ _ _ _, hE⟩
  · -- False
    have hr7 := hb
    replace hb := of_decide_eq_true (by simpa using hb)
    have hf : fineF g = cutF g := by unfold fineF; rw [if_pos hb]
    refine c_skip ?_
    refine c_seq ?_
    -- region 4
    refine c_ops ?_
    refine l_val rfl rfl rfl (r_move rfl) ?_
    refine l_val rfl rfl rfl (r_assign rfl) ?_
    refine l_nil ?_
    refine c_ret ?_
    exact ⟨A1, c1, congrArg (fun (l : List GNode) => Ending.returned (.slice A1 l.length c1)) hf.symm, hf ▸ hn, hE⟩
theorem pairsOf_calls (w0 : World) (A : Option Addr) (n c : Nat) (hn0 : 0 < n) (hn : n ≤ 16) (Ap : Option Addr) (cp : Nat) (l : FP) (hl : PairsAt w0 Ap cp l) :
    Calls Tryd.prog 10 [.slice A n c, .slice Ap l.length cp].toArray w0 fun en w' => ∃ ps A' c', en = .returned (.slice A' ps.length c') ∧ PairsAt w' A' c' ps ∧ ps.length ≤ 8 ∧ (∀ q ∈ ps, InG n q) ∧ Ext0 w0 w' := by
  have hE : Ext0 w0 w0 := Ext.refl _ _
  have hL : Has w0 [] := trivial
  refine calls [4] Tryd.func10 rfl rfl rfl rfl ?_
  refine c_seq ?_
  -- region 0
  refine c_ops ?_
  refine l_val rfl rfl rfl (r_assign rfl) ?_
  refine l_nil ?_
  refine c_seq ?_
  -- region 1
  refine c_ops ?_
  refine l_val rfl rfl rfl (r_assign rfl) ?_
  refine l_nil ?_
  refine c_seq ?_
  refine c_seq ?_
  -- region 2
  refine c_ops ?_
  refine l_val rfl rfl rfl (r_assign rfl) ?_
  refine l_nil ?_
  refine c_block ?_
  -- loop 0: slots that it writes and that are read in it ahead of that: [6, 5]
  refine c_loop [5, 6, 7, 8, 9, 10, 11, 12, 13, 14, 15, 16, 17, 18, 19, 20, 21, 22, 23, 24, 25, 26, 27, 28, 29, 30, 31, 32, 33, 34, 35, 36] (fun m1 e w => ∃ (k : Nat) (v : Value) (ps : FP), k ≤ 8 ∧ k ≤ l.length ∧ m1 = 8 - k ∧ e 6 = .int .i64 k ∧ e 5 = v ∧ ps.length = k ∧ (∀ q ∈ ps, InG n q) ∧ Has w [.row w0.heap.size 28 2 v (ps).length ((ps).map cells2).flatten] ∧ Ext0 w0 w) 8 ?_ ?_
  · exact ⟨0, .slice none 0 0, [], by decide, Nat.zero_le _, rfl, rfl, rfl, rfl, fun q hq => by simp at hq, hL.nilRow _ _ _, hE⟩
  intro m1 e w hI
  obtain ⟨k, v, ps, hk8', hkl, hmk, h6, h5, hpl, hin, hL, hE⟩ := hI
  refine c_know h6 ?_
  refine c_know (t := 5) (by exact h5) ?_
  have hlm := hl.max
  refine c_seq ?_
  refine c_seq ?_
  -- region 3
  refine c_ops ?_
  refine l_val rfl rfl rfl (r_move rfl) ?_
  refine l_val rfl rfl rfl (r_move rfl) ?_
  refine l_val rfl rfl rfl (r_len rfl Tryd.underlying23 rfl) ?_
  refine l_val rfl rfl rfl (r_lss rfl rfl rfl) ?_
  refine l_val rfl rfl rfl (r_move rfl) ?_
  refine l_case 11 rfl (fun hb => ?_) (fun hb => ?_)
  · -- slot 11 is True
    have hr11 := hb
    replace hb := of_decide_eq_true hb
    have hkk : k < l.length := by omega
    refine l_val rfl rfl rfl (r_move rfl) ?_
    refine l_val rfl rfl rfl (r_lss rfl rfl rfl) ?_
    refine l_val rfl rfl rfl (r_pick rfl rfl) ?_
    refine l_nil ?_
    refine c_cond rfl (fun hb => ?_) (fun hb => ?_)
    · -- True
      have hr14 := hb
      replace hb := of_decide_eq_true hb
      have hk8 : k < 8 := by omega
      have hpc := hl.pair k (by omega) (by omega)
      refine c_skip ?_
      refine c_seq ?_
      refine c_block ?_
      -- region 5
      refine c_draw mixed (hL.sub (.cons _ .slnil)) hE ?_
      replace hL := hL.drew
      replace hE := hE.drew
      have hK := hL.sub (.cons _ .slnil)
      refine h_t 0 rfl rfl (by kernel_rfl) (fun _ _ _ h => h) ⟨hK, hE⟩ rfl (fun W hW => r_move rfl) ?_
      refine h_t 1 rfl rfl (by kernel_rfl) (fun _ _ _ h => h) ⟨hK, hE⟩ rfl (fun W hW => r_move rfl) ?_
      refine h_t 2 rfl rfl (by kernel_rfl) (fun _ _ _ h => h) ⟨hK, hE⟩ rfl (fun W hW => r_move rfl) ?_
      refine h_t 3 rfl rfl (by kernel_rfl) (fun _ _ _ h => h) ⟨hK, hE⟩ rfl (fun W hW => r_indexAddr_sl rfl Tryd.underlying23 Tryd.sizeOf28 rfl hl.is rfl (by omega) (by omega)) ?_
      refine h_t 4 rfl rfl (by kernel_rfl) (fun _ _ _ h => h) ⟨hK, hE⟩ rfl (fun W hW => r_indexAddr_arr rfl Tryd.underlying28 Tryd.sizeOf3 rfl rfl (by decide) (by decide)) ?_
      refine h_t 5 rfl rfl (by kernel_rfl) (fun _ _ _ h => h) ⟨hK, hE⟩ rfl (fun W hW => r_load rfl Tryd.isAgg3 rfl (Ext0.cells hW.2 _ _ (hpc 0 _ rfl))) ?_
      refine h_t 6 rfl rfl (by kernel_rfl) (fun _ _ _ h => h) ⟨hK, hE⟩ rfl (fun W hW => r_move rfl) ?_
      refine h_t 7 rfl rfl (by kernel_rfl) (fun _ _ _ h => h) ⟨hK, hE⟩ rfl (fun W hW => r_len rfl Tryd.underlying22 rfl) ?_
      refine h_t 9 rfl rfl (by kernel_rfl) (fun _ _ _ h => h) ⟨hK, hE⟩ rfl (fun W hW => r_move rfl) ?_
      refine h_t 10 rfl rfl (by kernel_rfl) (fun _ _ _ h => h) ⟨hK, hE⟩ rfl (fun W hW => r_move rfl) ?_
      refine h_t 11 rfl rfl (by kernel_rfl) (fun _ _ _ h => h) ⟨hK, hE⟩ rfl (fun W hW => r_indexAddr_sl rfl Tryd.underlying23 Tryd.sizeOf28 rfl hl.is rfl (by omega) (by omega)) ?_
      refine h_t 12 rfl rfl (by kernel_rfl) (fun _ _ _ h => h) ⟨hK, hE⟩ rfl (fun W hW => r_indexAddr_arr rfl Tryd.underlying28 Tryd.sizeOf3 rfl rfl (by decide) (by decide)) ?_
      refine h_t 13 rfl rfl (by kernel_rfl) (fun _ _ _ h => h) ⟨hK, hE⟩ rfl (fun W hW => r_load rfl Tryd.isAgg3 rfl (Ext0.cells hW.2 _ _ (hpc 1 _ rfl))) ?_
      refine h_t 14 rfl rfl (by kernel_rfl) (fun _ _ _ h => h) ⟨hK, hE⟩ rfl (fun W hW => r_move rfl) ?_
      refine h_t 15 rfl rfl (by kernel_rfl) (fun _ _ _ h => h) ⟨hK, hE⟩ rfl (fun W hW => r_len rfl Tryd.underlying22 rfl) ?_
      refine h_by 8 rfl rfl (by kernel_rfl) rfl (r_call rfl rfl Tryd.func14 rfl rfl) (Bring_calls _ _ n (by omega) (by omega)) ?_   -- outright.go:71 slot 25 := (call {callee=(value (func 14)), args=[(tmp 22), (tmp 24)], argTypes=[3, 3]})
      rintro _ w ⟨q1, rfl, hq10, hq11, hX⟩
      replace hL := hL.ext0 hX
      replace hE := hE.step0 hX
      have hK := hL.sub (.cons _ .slnil)
      refine ⟨_, rfl, ⟨hK, hE⟩, ?_⟩
      refine h_by 16 rfl rfl (by kernel_rfl) rfl (r_call rfl rfl Tryd.func14 rfl rfl) (Bring_calls _ _ n (by omega) (by omega)) ?_   -- outright.go:71 slot 33 := (call {callee=(value (func 14)), args=[(tmp 30), (tmp 32)], argTypes=[3, 3]})
      rintro _ w ⟨q2, rfl, hq20, hq21, hX⟩
      replace hL := hL.ext0 hX
      replace hE := hE.step0 hX
      have hK := hL.sub (.cons _ .slnil)
      refine ⟨_, rfl, ⟨hK, hE⟩, ?_⟩
      refine h_t 17 rfl rfl (by kernel_rfl) (fun _ _ _ h => h) ⟨hK, hE⟩ rfl (fun W hW => r_build rfl rfl (built_p2 _ _)) ?_   -- outright.go:71 slot 34 := (build 28 [(0, (tmp 25)), (1, (tmp 33))])
      refine h_new 18 rfl rfl (by kernel_rfl) rfl (n_slice (cells := #[.int .i64 q1, .int .i64 q2]) rfl Tryd.underlying23 Tryd.sizeOf28 Tryd.zeroValue28 rfl rfl (fill_pair _ _) hL hE) ?_
      rintro _ w ⟨s35, rfl, hs35, hL, hE, hX⟩
      have hK := hL.sub (.cons _ (.cons _ .slnil))
      refine ⟨⟨hK, hE⟩, ?_⟩
      refine h_new 19 rfl rfl (by kernel_rfl) rfl (r_append (ys := cells2 (q1, q2)) 1 rfl Tryd.underlying23 info_arr2 rfl (by decide) rfl rfl hL hE rfl rfl (blk_raw (cs := #[.int .i64 q1, .int .i64 q2]) (hL.get 0 rfl) rfl) (fun u hu => by simp [cells2] at hu; rcases hu with rfl | rfl <;> rfl) (by omega) (by omega) (Nat.le_refl _) hE.size) ?_
      rintro _ w ⟨hL, hE, hk⟩
      obtain ⟨A4, c4, rfl⟩ := ownsRow_slice (hL.row 1 rfl)
      replace hL : Has w [.blk s35 (.cells #[.int .i64 q1, .int .i64 q2] 28 (0, 0)), .row w0.heap.size 28 2 (.slice A4 (ps.length + 1) c4) (ps ++ [(q1, q2)]).length ((ps ++ [(q1, q2)]).map cells2).flatten] := by rw [← pairs_snoc, List.length_append]; exact hL
      have hK := hL.sub (.cons _ (.cons _ .slnil))
      refine ⟨⟨hK, hE⟩, ?_⟩
      refine h_t 20 rfl rfl (by kernel_rfl) (fun _ _ _ h => h) ⟨hK, hE⟩ rfl (fun W hW => r_assign rfl) ?_
      refine h_done (by kernel_rfl) ?_
      -- region 4
      refine c_ops ?_
      refine l_val rfl rfl rfl (r_move rfl) ?_
      refine l_val rfl rfl rfl (r_add rfl rfl rfl) ?_
      refine l_val rfl rfl rfl (r_assign rfl) ?_
      refine l_nil ?_
      refine ⟨by repeat (first | exact Agree.over _ _ _ | exact Agree.refl _ _ | (refine Agree.puto ?_ _ _ rfl) | (refine Agree.put ?_ _ _ rfl) | (refine Agree.sub ?_ rfl)), ?_⟩
      refine ⟨8 - (k + 1), by omega, k + 1, (.slice A4 (ps.length + 1) c4), ps ++ [(q1, q2)], by omega, by omega, rfl, by show Value.int .i64 (IntKind.i64.wrap ((k : Int) + 1)) = _; rw [wrap_succ hkk hlm], rfl, by simp [hpl], fun q hq => ?_, hL.tail, hE⟩
      rcases List.mem_append.1 hq with hq | hq
      · exact hin q hq
      · rw [List.mem_singleton] at hq
        subst hq
        exact ⟨hq10, hq11, hq20, hq21⟩
    · -- False
      have hr14 := hb
      replace hb := of_decide_eq_false hb
      refine c_exit ?_
      refine c_seq ?_
      -- region 6
      refine c_ops ?_
      refine l_val rfl rfl rfl (r_move rfl) ?_
      refine l_val rfl rfl rfl (r_assign rfl) ?_
      refine l_nil ?_
      refine c_ret ?_
      obtain ⟨A9, c9, rfl⟩ := ownsRow_slice (hL.row 0 rfl)
      exact ⟨ps, A9, c9, rfl, Sl.pairs_at (hL.row 0 rfl), by omega, hin, hE⟩
  · -- slot 11 is False
    have hr11 := hb
    replace hb := of_decide_eq_false hb
    refine l_not rfl rfl rfl ?_
    refine l_not rfl rfl rfl ?_
    refine l_val rfl rfl rfl (r_pick rfl rfl) ?_
    refine l_nil ?_
    refine c_no rfl ?_
    refine c_exit ?_
    refine c_seq ?_
    -- region 6
    refine c_ops ?_
    refine l_val rfl rfl rfl (r_move rfl) ?_
    refine l_val rfl rfl rfl (r_assign rfl) ?_
    refine l_nil ?_
    refine c_ret ?_
    obtain ⟨A9, c9, rfl⟩ := ownsRow_slice (hL.row 0 rfl)
    exact ⟨ps, A9, c9, rfl, Sl.pairs_at (hL.row 0 rfl), by omega, hin, hE⟩
end Go.Proofs.YtndophlnapjkhaaDoor.Vc
