/- Facts that are found for pairs: what the search gives, in plain Lean. Conditions: those of each statement. -/
import Derived.Test.YtndophlnapjkhaaDoorReach
namespace Go.Proofs.YtndophlnapjkhaaDoor.Vc
open Go Go.RowKit
set_option linter.unusedVariables false
set_option linter.unusedSimpArgs false
def firstP (g : List GNode) (p : Int × Int) : Fact := ⟨p.1, p.2, if (gat g p.1).kind = 8 then [] else [pickX g false (mayX g false) p.1 p.2]⟩
def onP (g : List GNode) (p : Int × Int) : FP := (byF g (firstP g p)).1
def doneP (g : List GNode) (p : Int × Int) (ws : List Int) : Fact := ⟨p.1, p.2, (firstP g p).why ++ ws⟩
def atP (p : Int × Int) : Nat → List Fact → Option Nat
  | _, [] => none
  | k, f :: r => if (f.a, f.b) = p then some k else atP p (k + 1) r
def findsF (F : Int × Int → List Fact → Int × List Fact) : FP → List Fact → List Int × List Fact
  | [], l => ([], l)
  | q :: qs, l => ((F q l).1 :: (findsF F qs (F q l).2).1, (findsF F qs (F q l).2).2)
def findF (g : List GNode) : Nat → Int × Int → List Fact → Int × List Fact
  | 0, _, l => (0, l)
  | k + 1, p, l => match atP p 0 l with
    | some i => ((i : Int), l)
    | none => ((l.length : Int), (findsF (findF g k) (onP g p) (l ++ [firstP g p])).2.set l.length (doneP g p (findsF (findF g k) (onP g p) (l ++ [firstP g p])).1))
def prs (l : List Fact) : FP := l.map fun f => (f.a, f.b)
theorem prs_append (a b : List Fact) : prs (a ++ b) = prs a ++ prs b := by simp [prs]
theorem prs_length (a : List Fact) : (prs a).length = a.length := by simp [prs]
theorem atP_some {p : Int × Int} : ∀ (l : List Fact) (k i : Nat), atP p k l = some i → k ≤ i ∧ (prs l)[i - k]? = some p
  | [], k, i, h => by simp [atP] at h
  | f :: r, k, i, h => by
    unfold atP at h
    split at h
    · rename_i e
      cases h
      simp [prs, e]
    · obtain ⟨h1, h2⟩ := atP_some r (k + 1) i h
      refine ⟨by omega, ?_⟩
      rw [show i - k = (i - (k + 1)) + 1 by omega]
      simpa [prs] using h2
theorem atP_none {p : Int × Int} : ∀ (l : List Fact) (k : Nat), atP p k l = none ↔ p ∉ prs l
  | [], k => by simp [atP, prs]
  | f :: r, k => by
    unfold atP
    split
    · rename_i e
      simp [prs, e]
    · rename_i e
      rw [atP_none r (k + 1)]
      have : ¬ p = (f.a, f.b) := fun h => e h.symm
      simp [prs, this]
theorem atP_append {p : Int × Int} : ∀ (l r : List Fact) (k : Nat), atP p k (l ++ r) = match atP p k l with | some i => some i | none => atP p (k + l.length) r
  | [], r, k => rfl
  | f :: l, r, k => by
    simp only [List.cons_append, atP]
    split
    · rfl
    · rw [atP_append l r (k + 1), List.length_cons, show k + 1 + l.length = k + (l.length + 1) by omega]
theorem atP_congr {p : Int × Int} : ∀ (l r : List Fact) (k : Nat), prs l = prs r → atP p k l = atP p k r
  | [], [], k, h => rfl
  | [], _ :: _, k, h => by simp [prs] at h
  | _ :: _, [], k, h => by simp [prs] at h
  | f :: l, f' :: r, k, h => by
    simp only [prs, List.map_cons, List.cons.injEq] at h
    simp only [atP, h.1, atP_congr l r (k + 1) h.2]
theorem findsF_append (F : Int × Int → List Fact → Int × List Fact) : ∀ (xs ys : FP) (l : List Fact), findsF F (xs ++ ys) l = ((findsF F xs l).1 ++ (findsF F ys (findsF F xs l).2).1, (findsF F ys (findsF F xs l).2).2)
  | [], ys, l => rfl
  | x :: xs, ys, l => by simp only [List.cons_append, findsF, findsF_append F xs ys]
theorem findsF_snoc (F : Int × Int → List Fact → Int × List Fact) (xs : FP) (y : Int × Int) (l : List Fact) : findsF F (xs ++ [y]) l = ((findsF F xs l).1 ++ [(F y (findsF F xs l).2).1], (F y (findsF F xs l).2).2) := by
  rw [findsF_append]
  rfl
theorem findX_get {α : Type} {p : α → Bool} : ∀ (l : List α) (k i : Nat), findX p k l = some i → k ≤ i ∧ ∃ x, l[i - k]? = some x ∧ p x = true
  | [], k, i, h => by simp [findX] at h
  | x :: r, k, i, h => by
    unfold findX at h
    split at h
    · rename_i e
      cases h
      exact ⟨Nat.le_refl _, x, by simp, e⟩
    · obtain ⟨h1, y, h2, h3⟩ := findX_get r (k + 1) i h
      refine ⟨by omega, y, ?_, h3⟩
      rw [show i - k = (i - (k + 1)) + 1 by omega]
      simpa using h2
section
variable {g : List GNode} {p : Int × Int}
theorem firstP_8 (h8 : (gat g p.1).kind = 8) : firstP g p = ⟨p.1, p.2, []⟩ := by unfold firstP; rw [if_pos h8]
theorem firstP_no (h8 : (gat g p.1).kind ≠ 8) : firstP g p = ⟨p.1, p.2, [pickX g false (mayX g false) p.1 p.2]⟩ := by unfold firstP; rw [if_neg h8]
theorem doneP_8 (ws : List Int) (h8 : (gat g p.1).kind = 8) : doneP g p ws = ⟨p.1, p.2, ws⟩ := by unfold doneP; rw [firstP_8 h8]; rfl
theorem doneP_no (ws : List Int) (h8 : (gat g p.1).kind ≠ 8) : doneP g p ws = ⟨p.1, p.2, pickX g false (mayX g false) p.1 p.2 :: ws⟩ := by unfold doneP; rw [firstP_no h8]; rfl
theorem doneP_by (ws : List Int) : byF g (doneP g p ws) = byF g (firstP g p) := by
  by_cases h8 : (gat g p.1).kind = 8
  · rw [doneP_8 ws h8, firstP_8 h8]
    simp only [byF, unionF, h8, if_true]
  · rw [doneP_no ws h8, firstP_no h8]
    rfl
theorem doneP_on (ws : List Int) : onF g (doneP g p ws) = ws := by
  by_cases h8 : (gat g p.1).kind = 8
  · rw [doneP_8 ws h8]; simp only [onF, h8, if_true]
  · rw [doneP_no ws h8]; simp only [onF, h8, if_false]; rfl
theorem firstP_on : onF g (firstP g p) = [] := by
  have := doneP_on (g := g) (p := p) []
  rwa [show doneP g p [] = firstP g p by unfold doneP; simp [firstP]] at this
theorem gat_inn {n : Int} (h0 : 0 ≤ n) (h1 : n < g.length) : gat g n ∈ g := by
  have hl : n.toNat < g.length := by omega
  unfold gat
  rw [List.getD_eq_getElem?_getD, List.getElem?_eq_getElem hl]
  exact List.getElem_mem hl
theorem plainOn_rec {X : Int × Int → Bool} {s : GNode} (hs : ∀ k ∈ s.l, 0 ≤ k ∧ k < (g.length : Int)) (hsl : s.l.length = s.keys.length) : ∀ (items : List (ByteArray × Int)), (∀ x ∈ items, 0 ≤ x.2 ∧ x.2 < (g.length : Int)) → recX X s items = true → ∃ on, plainOn s items = some on ∧ on.length = items.length ∧ ∀ q ∈ on, InG g.length q ∧ X q = true
  | [], _, _ => ⟨[], rfl, rfl, fun q h => by simp at h⟩
  | (key, tl) :: r, hi, h => by
    unfold recX at h
    split at h
    · cases h
    · rename_i h0
      rw [Bool.and_eq_true] at h
      obtain ⟨on, h1, h2, h3⟩ := plainOn_rec hs hsl r (fun x hx => hi x (List.mem_cons_of_mem _ hx)) h.2
      have hlt := idxS_lt s.keys key
      have hk := hs (iat s.l (idxV (idxS s.keys key))) (by
        have := iat_nat (l := s.l) (k := (idxV (idxS s.keys key)).toNat) (by omega)
        rw [Int.toNat_of_nonneg (by omega)] at this
        exact List.mem_of_getElem? this)
      have ht := hi _ List.mem_cons_self
      refine ⟨(iat s.l (idxV (idxS s.keys key)), tl) :: on, by unfold plainOn; rw [if_neg h0, h1]; rfl, by simp [h2], fun q hq => ?_⟩
      rcases List.mem_cons.1 hq with rfl | hq
      · exact ⟨⟨hk.1, hk.2, ht.1, ht.2⟩, h.1⟩
      · exact h3 q hq
/-- What is known of the first shape of a fact that is found. -/
structure FoundP (g : List GNode) (p : Int × Int) : Prop where
  ok : FactOk g (firstP g p)
  yes : (byF g (firstP g p)).2 = true
  inn : ∀ q ∈ onP g p, InG g.length q ∧ mayX g false q = true
  many : ∀ ws : List Int, ws.length = (onP g p).length → manyF g (doneP g p ws) = some ((doneP g p ws).why.length : Int)
theorem found_p (hok : GraphOk g) (hp : InG g.length p) (hm : mayX g false p = true) : FoundP g p := by
  obtain ⟨ha0, ha1, hb0, hb1⟩ := hp
  have hfix := may_fix (st := false) hok (p := p) ⟨ha0, ha1, hb0, hb1⟩
  rw [hm] at hfix
  have hh := (holdsX_iff p).1 hfix.symm
  have hsg := gat_inn ha0 ha1
  by_cases h8 : (gat g p.1).kind = 8
  · have hby : byF g (firstP g p) = ((gat g p.1).l.map (fun m => (m, p.2)), true) := by
      rw [firstP_8 h8]
      simp only [byF, unionF, h8, if_true]
    have hon : onP g p = (gat g p.1).l.map (fun m => (m, p.2)) := by unfold onP; rw [hby]
    have hmem : membersG g p.1 = (gat g p.1).l := by unfold membersG; rw [if_neg (by omega), if_pos h8]
    rw [hmem] at hh
    have hl8 : ∀ k ∈ (gat g p.1).l, (gat g k).kind ≠ 8 := by
      rcases hok.is hsg with ⟨h, _⟩ | ⟨h, _⟩ | ⟨h, _⟩ | ⟨h, hl, _⟩ | ⟨h, _⟩
      · omega
      · omega
      · omega
      · exact hl
      · omega
    refine ⟨?_, by rw [hby], fun q hq => ?_, fun ws hws => ?_⟩
    · rw [firstP_8 h8]
      exact ⟨⟨ha0, ha1⟩, ⟨hb0, hb1⟩, fun h => absurd h8 h, fun h => absurd h8 h⟩
    · rw [hon, List.mem_map] at hq
      obtain ⟨m, hm1, rfl⟩ := hq
      have hi := hok.inn hsg hm1
      have hin : InG g.length (m, p.2) := ⟨hi.1, hi.2, hb0, hb1⟩
      refine ⟨hin, ?_⟩
      rw [may_fix hok hin, holdsX_iff]
      intro s hs
      rw [membersG_one hi.1 hi.2 (hl8 m hm1), List.mem_singleton] at hs
      subst hs
      exact hh s hm1
    · rw [doneP_8 ws h8]
      rw [hon, List.length_map] at hws
      simp only [manyF, h8, if_true, hws]
  · have hpk := hh p.1 (by rw [membersG_one ha0 ha1 h8]; exact List.mem_singleton.2 rfl)
    have hside := SideOk.of hok hsg h8
    have hf := firstP_no (p := p) h8
    have hd := fun ws => doneP_no (p := p) ws h8
    have huni : ∀ f : Fact, f.a = p.1 → (unionF g f).1 = false := fun f hfa => by simp only [unionF, hfa, h8, if_false]
    cases hx : findX (fun k => doesX false (mayX g false) (gat g p.1) (gat g k)) 0 (membersG g p.2) with
    | none =>
      have hpv : pickX g false (mayX g false) p.1 p.2 = if (gat g p.1).kind = 9 then (if mayX g false (iat (gat g p.1).l 0, p.2) then -1 else -2) else -2 := by unfold pickX; rw [hx]
      have h9 : (gat g p.1).kind = 9 := by
        by_cases h9 : (gat g p.1).kind = 9
        · exact h9
        · rw [hpv, if_neg h9] at hpk; exact absurd rfl hpk
      have hX : mayX g false (iat (gat g p.1).l 0, p.2) = true := by
        cases hX : mayX g false (iat (gat g p.1).l 0, p.2) with
        | true => rfl
        | false => rw [hpv, if_pos h9, hX] at hpk; exact absurd rfl hpk
      have hpv1 : pickX g false (mayX g false) p.1 p.2 = -1 := by rw [hpv, if_pos h9, hX]; rfl
      have hby : byF g (firstP g p) = ([(iat (gat g p.1).l 0, p.2)], true) := by
        rw [hf, hpv1]
        unfold byF
        rw [huni _ rfl]
        simp [boundF, h9, iat]
      have hon : onP g p = [(iat (gat g p.1).l 0, p.2)] := by unfold onP; rw [hby]
      have hfst := hside.first h9
      refine ⟨?_, by rw [hby], fun q hq => ?_, fun ws hws => ?_⟩
      · rw [hf, hpv1]
        exact ⟨⟨ha0, ha1⟩, ⟨hb0, hb1⟩, fun _ => by simp, fun _ h => absurd ⟨h9, rfl⟩ h⟩
      · rw [hon, List.mem_singleton] at hq
        subst hq
        exact ⟨⟨hfst.1, hfst.2, hb0, hb1⟩, hX⟩
      · rw [hd, hpv1]
        rw [hon] at hws
        simp only [manyF, h8, if_false]
        simp [h9, iat, hws]
    | some i =>
      obtain ⟨_, x, hx1, hx2⟩ := findX_get _ 0 i hx
      rw [Nat.sub_zero] at hx1
      have hpv : pickX g false (mayX g false) p.1 p.2 = (i : Int) := by unfold pickX; rw [hx]
      have hil : i < (membersG g p.2).length := (List.getElem?_eq_some_iff.1 hx1).1
      have hch : ∀ ws : List Int, chosenF g ⟨p.1, p.2, (i : Int) :: ws⟩ = gat g x := fun ws => by
        have := iat_nat (l := membersG g p.2) (k := i) hil
        rw [hx1] at this
        injection this with this
        simp only [chosenF]
        rw [show iat ((i : Int) :: ws) 0 = (i : Int) from rfl, ← this]
      have hxin := hok.members (List.mem_of_getElem? hx1)
      have htg := gat_inn hxin.1 hxin.2.1
      have hts := SideOk.of hok htg hxin.2.2
      have hfo : FactOk g (firstP g p) := by
        rw [hf, hpv]
        refine ⟨⟨ha0, ha1⟩, ⟨hb0, hb1⟩, fun _ => by simp, fun _ _ => ?_⟩
        show 0 ≤ (i : Int) ∧ (i : Int) < ((membersG g p.2).length : Int)
        omega
      have hnb : ∀ ws : List Int, (boundF g ⟨p.1, p.2, (i : Int) :: ws⟩).1 = false := fun ws => by
        have : ¬ ((i : Int) = -1) := by omega
        simp [boundF, iat, this]
      have hmany0 : ∀ ws : List Int, manyF g ⟨p.1, p.2, (i : Int) :: ws⟩ = if (gat g p.1).kind = 7 ∧ (gat g x).kind = 7 then some (1 + ((gat g x).keys.length : Int)) else if (gat g p.1).kind = 9 ∧ (gat g x).kind = 9 then some 2 else some 1 := fun ws => by
        have h1 : ¬ ((i : Int) = -1) := by omega
        have h2 : ¬ ((i : Int) < 0 ∨ ((membersG g p.2).length : Int) ≤ (i : Int)) := by omega
        simp only [manyF, h8, if_false, List.length_cons, Nat.succ_ne_zero, show iat ((i : Int) :: ws) 0 = (i : Int) from rfl, h1, and_false, h2, hch]
      by_cases hdyn : (gat g p.1).kind = 1 ∨ (gat g x).kind = 1
      · have hby : byF g (firstP g p) = ([], true) := by
          rw [hf, hpv]
          unfold byF
          rw [huni _ rfl, hnb]
          simp [looseF, hch, hdyn]
        have hon : onP g p = [] := by unfold onP; rw [hby]
        refine ⟨hfo, by rw [hby], fun q hq => by rw [hon] at hq; simp at hq, fun ws hws => ?_⟩
        rw [hon] at hws
        rw [hd, hpv, hmany0, if_neg (by omega), if_neg (by omega)]
        simp [hws]
      · have hdo : doesX false (mayX g false) (gat g p.1) (gat g x) = true := hx2
        unfold doesX at hdo
        rw [if_neg hdyn] at hdo
        by_cases hk : (gat g p.1).kind = (gat g x).kind
        · rw [if_pos hk] at hdo
          have hby : byF g (firstP g p) = plainR (gat g p.1) (gat g x) := by
            rw [hf, hpv]
            unfold byF
            rw [huni _ rfl, hnb]
            simp [looseF, hch, hdyn, plainF]
          have hisS := hok.is hsg
          have hisT := hok.is htg
          have hnameNum : (gat g p.1).name = (gat g x).name ∧ (gat g p.1).num = (gat g x).num ∧ ((gat g x).kind ≠ 7 → (gat g x).keys = []) := by
            unfold ruleX at hdo
            rcases hisS with ⟨h, hl, hkk, hn, hm'⟩ | ⟨h, hl, hkk, hm'⟩ | ⟨h, hl, hr, hn, hm'⟩ | ⟨h, hl, h2, hd', hkk, hn, hm'⟩ | ⟨h, hl, hkk, hn⟩ <;> rcases hisT with ⟨h', gl, gk, gn, gm⟩ | ⟨h', gl, gk, gm⟩ | ⟨h', gl, gr, gn, gm⟩ | ⟨h', gl, g2, gd, gk, gn, gm⟩ | ⟨h', gl, gk, gn⟩ <;> first | omega | skip
            · exact ⟨by rw [hn, gn], by rw [hm', gm], fun _ => gk⟩
            · rw [if_pos h] at hdo
              exact ⟨of_decide_eq_true hdo, by rw [hm', gm], fun _ => gk⟩
            · exact ⟨by rw [hn, gn], by rw [hm', gm], fun hne => absurd h' hne⟩
            · rw [if_neg (by omega), if_neg (by omega), if_pos h] at hdo
              split at hdo
              · rename_i hnn
                exact ⟨by rw [hn, gn], hnn, fun _ => gk⟩
              · cases hdo
          have hodd : oddF (gat g p.1) (gat g x) = false := by simp [oddF, hk, hnameNum.1, hnameNum.2.1]
          by_cases h9 : (gat g p.1).kind = 9
          · have hon : plainR (gat g p.1) (gat g x) = ([(iat (gat g p.1).l 0, iat (gat g x).l 0)], true) := by
              unfold plainR
              rw [hodd, if_neg (by decide), if_pos h9]
            have honp : onP g p = [(iat (gat g p.1).l 0, iat (gat g x).l 0)] := by unfold onP; rw [hby, hon]
            have hfst := hside.first h9
            have hfst' := hts.first (by omega)
            unfold ruleX at hdo
            rw [if_neg (by omega), if_neg (by omega), if_pos h9] at hdo
            split at hdo
            · refine ⟨hfo, by rw [hby, hon], fun q hq => ?_, fun ws hws => ?_⟩
              · rw [honp, List.mem_singleton] at hq
                subst hq
                exact ⟨⟨hfst.1, hfst.2, hfst'.1, hfst'.2⟩, hdo⟩
              · rw [honp] at hws
                rw [hd, hpv, hmany0, if_neg (by omega), if_pos ⟨h9, by omega⟩]
                simp [hws]
            · cases hdo
          · by_cases h7 : (gat g p.1).kind = 7
            · unfold ruleX at hdo
              rw [if_neg (by omega), if_pos h7] at hdo
              have hlen := hts.rcd (by omega)
              obtain ⟨on, ho1, ho2, ho3⟩ := plainOn_rec hside.inn (hside.rcd h7) ((gat g x).keys.zip (gat g x).l) (fun y hy => hts.inn _ (List.of_mem_zip hy).2) hdo
              have hon : plainR (gat g p.1) (gat g x) = (on, true) := by
                unfold plainR
                rw [hodd, if_neg (by decide), if_neg h9, ho1]
              have honp : onP g p = on := by unfold onP; rw [hby, hon]
              refine ⟨hfo, by rw [hby, hon], fun q hq => ho3 q (by rwa [honp] at hq), fun ws hws => ?_⟩
              rw [honp, ho2, List.length_zip, hlen, Nat.min_self] at hws
              rw [hd, hpv, hmany0, if_pos ⟨h7, by omega⟩]
              simp [hws]
              omega
            · have hkeys := hnameNum.2.2 (by omega)
              have hon : plainR (gat g p.1) (gat g x) = ([], true) := by
                unfold plainR
                rw [hodd, if_neg (by decide), if_neg h9, hkeys]
                rfl
              have honp : onP g p = [] := by unfold onP; rw [hby, hon]
              refine ⟨hfo, by rw [hby, hon], fun q hq => by rw [honp] at hq; simp at hq, fun ws hws => ?_⟩
              rw [honp] at hws
              rw [hd, hpv, hmany0, if_neg (by omega), if_neg (by omega)]
              simp [hws]
        · rw [if_neg hk] at hdo
          cases hdo
end
end Go.Proofs.YtndophlnapjkhaaDoor.Vc
