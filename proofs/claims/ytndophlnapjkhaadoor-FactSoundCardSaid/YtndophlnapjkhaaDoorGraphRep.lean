/- Nodes of graphs and facts, as Go's memory holds them. Conditions: none. -/
import Derived.Test.YtndophlnapjkhaaDoorRep
namespace Go.Proofs.YtndophlnapjkhaaDoor.Vc
open Go Go.RowKit
structure GNode where
  kind : Int
  num : Int
  name : ByteArray
  keys : List ByteArray
  l : List Int
deriving DecidableEq
structure Fact where
  a : Int
  b : Int
  why : List Int
deriving DecidableEq
def GNode.nil : GNode := ⟨0, 0, ByteArray.empty, [], []⟩
def Fact.nil : Fact := ⟨0, 0, []⟩
/-- A node's five cells. -/
def nodeCells (x : GNode) (Ak : Option Addr) (ck : Nat) (Al : Option Addr) (cl : Nat) : List Value := [.int .i64 x.kind, .int .i64 x.num, .string x.name, .slice Ak x.keys.length ck, .slice Al x.l.length cl]
def RNode (w : World) (x : GNode) (cs : List Value) : Prop := ∃ Ak ck Al cl, cs = nodeCells x Ak ck Al cl ∧ Sl w 1 RStr Ak x.keys.length ck x.keys ∧ Sl w 1 RInt Al x.l.length cl x.l
def RFact (w : World) (x : Fact) (cs : List Value) : Prop := ∃ A c, cs = [.int .i64 x.a, .int .i64 x.b, .slice A x.why.length c] ∧ Sl w 1 RInt A x.why.length c x.why
def RPair (_ : World) (x : Int × Int) (cs : List Value) : Prop := cs = [.int .i64 x.1, .int .i64 x.2]
theorem RNode.kept : Kept RNode := fun _ _ _ _ hc ⟨Ak, ck, Al, cl, h, h1, h2⟩ => ⟨Ak, ck, Al, cl, h, h1.keep RStr.kept hc, h2.keep RInt.kept hc⟩
theorem RFact.kept : Kept RFact := fun _ _ _ _ hc ⟨A, c, h, h1⟩ => ⟨A, c, h, h1.keep RInt.kept hc⟩
theorem RPair.kept : Kept RPair := fun _ _ _ _ _ h => h
abbrev Nodes (w : World) (A : Option Addr) (c : Nat) (g : List GNode) : Prop := Sl w 5 RNode A g.length c g
abbrev FactsAt (w : World) (A : Option Addr) (c : Nat) (l : List Fact) : Prop := Sl w 3 RFact A l.length c l
abbrev Ints (w : World) (A : Option Addr) (c : Nat) (l : List Int) : Prop := Sl w 1 RInt A l.length c l
abbrev Strs (w : World) (A : Option Addr) (c : Nat) (l : List ByteArray) : Prop := Sl w 1 RStr A l.length c l
abbrev PairsAt (w : World) (A : Option Addr) (c : Nat) (l : List (Int × Int)) : Prop := Sl w 2 RPair A l.length c l
def gat (g : List GNode) (i : Int) : GNode := g.getD i.toNat GNode.nil
def fat (l : List Fact) (i : Int) : Fact := l.getD i.toNat Fact.nil
def iat (l : List Int) (i : Int) : Int := l.getD i.toNat 0
theorem Sl.node {w : World} {A : Option Addr} {c n : Nat} {g : List GNode} (h : Sl w 5 RNode A n c g) (i : Int) (h0 : 0 ≤ i) (h1 : i < n) :
    ∃ Ak ck Al cl, (∀ j v, (nodeCells (gat g i) Ak ck Al cl)[j]? = some v → w.cell? (((adr A).add (i.toNat * 5)).add j) = some v) ∧ Strs w Ak ck (gat g i).keys ∧ Ints w Al cl (gat g i).l := by
  obtain ⟨cs, _, ⟨Ak, ck, Al, cl, rfl, h2, h3⟩, h4⟩ := h.get GNode.nil i h0 h1
  exact ⟨Ak, ck, Al, cl, h4, h2, h3⟩
theorem Sl.fact {w : World} {A : Option Addr} {c n : Nat} {l : List Fact} (h : Sl w 3 RFact A n c l) (i : Int) (h0 : 0 ≤ i) (h1 : i < n) :
    ∃ A1 c1, (∀ j v, ([.int .i64 (fat l i).a, .int .i64 (fat l i).b, .slice A1 (fat l i).why.length c1] : List Value)[j]? = some v → w.cell? (((adr A).add (i.toNat * 3)).add j) = some v) ∧ Ints w A1 c1 (fat l i).why := by
  obtain ⟨cs, _, ⟨A1, c1, rfl, h2⟩, h4⟩ := h.get Fact.nil i h0 h1
  exact ⟨A1, c1, h4, h2⟩
theorem Sl.pair {w : World} {A : Option Addr} {c n : Nat} {l : List (Int × Int)} (h : Sl w 2 RPair A n c l) (i : Int) (h0 : 0 ≤ i) (h1 : i < n) :
    ∀ j v, ([.int .i64 (l.getD i.toNat (0, 0)).1, .int .i64 (l.getD i.toNat (0, 0)).2] : List Value)[j]? = some v → w.cell? (((adr A).add (i.toNat * 2)).add j) = some v := by
  obtain ⟨cs, _, h2, h4⟩ := h.get (0, 0) i h0 h1
  rw [h2] at h4
  exact h4
end Go.Proofs.YtndophlnapjkhaaDoor.Vc
