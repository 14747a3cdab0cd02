/-
  NARROWER THAN 'FOR EVERY INPUT', by the rows' own cells (each row's printed sentence says how): FactFinds: laid · FactLooks: laid · FactKnown: laid.
  DERIVED. THE GIVEN ROWS OF THIS SEAT. 3 by the template 'for every input the law returns true; each argument reads behind the call as it read before'; 0 by the template 'total and deterministic' (their statements: YtndophlnapjkhaaGreatDoorTotals.lean).
  GIVEN WITH THE SEED: the statements are not yours to turn. If you find one false, say at which input.
  Laid BY PROGRAM, IN A SANDBOX (cutbox-rows.mjs): the forced cells as the released guide's own fill.sh prints them over the translation 84c13d135b892771… (all of the seat's roots in one cut). By AI agents, Wed Nov 11 2026. No macro, syntax, notation, axiom, sorry.
-/
import Derived.Test.YtndophlnapjkhaaGreatDoorChecked
import GoSem.Claim
import GoSem.ClaimJoined
import GoSem.ClaimMapViews
import Derived.JoinedTies
import Derived.KernelRfl
namespace Go.Proofs.YtndophlnapjkhaaGreatDoor
/- THE CELL 'sum', in the pinned program and in every row, IS THE sha256 OF THE DUMP (.gsa) THAT YtndophlnapjkhaaGreatDoorProg.lean LOADS. Nothing in Lean hashes anything: it is a label: what it is worth is what the hold of that sum in a sandbox is worth. -/
noncomputable def Tryz.pinned : Pinned := { name := "ytndophlnapjkhaagreatdoor", sum := "84c13d135b892771e0b59fb7f4e3184f66a43e4cd0df59e357f8520f4f4fe3a3", checked := Tryz.checked }
namespace Rows
def none {H : Type} : Left H := { results := [], args := [] }

/- WHAT THE LISTED PACKAGE-LEVEL VARIABLES READ AS WHEN THE CALL BEGINS. Each datum BY PROGRAM (the guide's laid-datum.mjs) off the statement by which the dump's own 'gosem.cut.vars' lays the variable. In a bare row this is a premise. The card (YtndophlnapjkhaaGreatDoorCards.lean) ties it to the program's text. -/
def laid_armillary_lex_keys {H : Type} : DataW H := .agg [.lit (.string [109, 111, 100, 117, 108, 101]), .lit (.string [105, 109, 112, 111, 114, 116]), .lit (.string [116, 121, 112, 101]), .lit (.string [102, 110]), .lit (.string [108, 101, 116]), .lit (.string [105, 110]), .lit (.string [105, 102]), .lit (.string [116, 104, 101, 110]), .lit (.string [101, 108, 115, 101]), .lit (.string [105, 115]), .lit (.string [97, 115]), .lit (.string [116, 114, 117, 101]), .lit (.string [102, 97, 108, 115, 101]), .lit (.string [110, 117, 108, 108]), .lit (.string [100, 121, 110]), .lit (.string [98, 111, 111, 108]), .lit (.string [105, 110, 116]), .lit (.string [114, 101, 99])]

/-- 'armillarylaw12.FactFinds': WHATEVER THE INPUT: true; the input reads as it did. -/
def factFindsSpec : ChangeSpec := { name := "factFinds", fn := fun _ => fun
  | [d1, d2] => { results := [.lit (.bool true)], args := [d1, d2] }
  | _ => none }
def factFindsRow : OpenClaim := { program := "ytndophlnapjkhaagreatdoor", sum := "84c13d135b892771e0b59fb7f4e3184f66a43e4cd0df59e357f8520f4f4fe3a3", func := "armillary/armillarylaw12.FactFinds", spec := "factFinds", unfollowed := true, recurses := true, named := ["armillary/lex.keys"], plainKeys := false, apart := false, laid := [("armillary/lex.keys", laid_armillary_lex_keys)] }
def FactFindsSaid : Prop := factFindsRow.holds Tryz.pinned (OpenSpec.ofChange factFindsSpec)

/-- ITS FALSE NEIGHBOUR: 'it returns false'. Refute it at one input. -/
def factFindsWrong : ChangeSpec := { name := "factFinds", fn := fun _ => fun
  | [d1, d2] => { results := [.lit (.bool false)], args := [d1, d2] }
  | _ => none }
def FactFindsWrongFalsely : Prop := factFindsRow.holds Tryz.pinned (OpenSpec.ofChange factFindsWrong)

/-- 'armillarylaw12.FactLooks': WHATEVER THE INPUT: true; the input reads as it did. -/
def factLooksSpec : ChangeSpec := { name := "factLooks", fn := fun _ => fun
  | [d1, d2, d3] => { results := [.lit (.bool true)], args := [d1, d2, d3] }
  | _ => none }
def factLooksRow : OpenClaim := { program := "ytndophlnapjkhaagreatdoor", sum := "84c13d135b892771e0b59fb7f4e3184f66a43e4cd0df59e357f8520f4f4fe3a3", func := "armillary/armillarylaw12.FactLooks", spec := "factLooks", unfollowed := true, recurses := true, named := ["armillary/lex.keys"], plainKeys := false, apart := false, laid := [("armillary/lex.keys", laid_armillary_lex_keys)] }
def FactLooksSaid : Prop := factLooksRow.holds Tryz.pinned (OpenSpec.ofChange factLooksSpec)

/-- ITS FALSE NEIGHBOUR: 'it returns false'. Refute it at one input. -/
def factLooksWrong : ChangeSpec := { name := "factLooks", fn := fun _ => fun
  | [d1, d2, d3] => { results := [.lit (.bool false)], args := [d1, d2, d3] }
  | _ => none }
def FactLooksWrongFalsely : Prop := factLooksRow.holds Tryz.pinned (OpenSpec.ofChange factLooksWrong)

/-- 'armillarylaw12.FactKnown': WHATEVER THE INPUT: true; the input reads as it did. -/
def factKnownSpec : ChangeSpec := { name := "factKnown", fn := fun _ => fun
  | [] => { results := [.lit (.bool true)], args := [] }
  | _ => none }
def factKnownRow : OpenClaim := { program := "ytndophlnapjkhaagreatdoor", sum := "84c13d135b892771e0b59fb7f4e3184f66a43e4cd0df59e357f8520f4f4fe3a3", func := "armillary/armillarylaw12.FactKnown", spec := "factKnown", unfollowed := true, recurses := true, named := ["armillary/lex.keys"], plainKeys := false, apart := false, laid := [("armillary/lex.keys", laid_armillary_lex_keys)] }
def FactKnownSaid : Prop := factKnownRow.holds Tryz.pinned (OpenSpec.ofChange factKnownSpec)

/-- ITS FALSE NEIGHBOUR: 'it returns false'. Refute it at one input. -/
def factKnownWrong : ChangeSpec := { name := "factKnown", fn := fun _ => fun
  | [] => { results := [.lit (.bool false)], args := [] }
  | _ => none }
def FactKnownWrongFalsely : Prop := factKnownRow.holds Tryz.pinned (OpenSpec.ofChange factKnownWrong)

/- THE SECOND FORM. 'bulk': how many values and letters a reading holds, each counted each time it is reached (what is shared counts as often as it is met; a slice's spare places count too). A statement '..UptoSaid' is the law's where the arguments, and the package variables that the reading takes, are together of bulk at most 1048576: NARROWER than '..Said'. Prove '..Said' where nothing that the law and all that it calls make is longer than what came in: it says more and counts as full. Else prove '..UptoSaid'. A law counts once. -/
mutual
def uptoBulk {H : Type} : DataW H → Nat
  | .lit (.string bytes) => bytes.length + 1
  | .lit _ => 1
  | .nil => 1
  | .ptr d => uptoBulk d + 1
  | .slice elems spare => uptoBulkAll elems + uptoBulkAll spare + 1
  | .agg parts => uptoBulkAll parts + 1
  | .iface _ d => uptoBulk d + 1
  | .map entries => uptoBulkEntries entries + 1
  | .held _ => 1
def uptoBulkAll {H : Type} : List (DataW H) → Nat
  | [] => 0
  | d :: r => uptoBulk d + uptoBulkAll r
def uptoBulkEntries {H : Type} : List (Lit × DataW H) → Nat
  | [] => 0
  | x :: r => uptoBulkEntry x + uptoBulkEntries r
def uptoBulkEntry {H : Type} : Lit × DataW H → Nat
  | (.string bytes, d) => bytes.length + uptoBulk d + 1
  | (_, d) => uptoBulk d + 1
 end
def uptoSmall : (H : Type) → List (DataW H) → Bool := fun _ ds => decide (uptoBulkAll ds ≤ 1048576)
def OpenSpec.upto (s : _root_.Go.ChangeSpec) : _root_.Go.OpenSpec := { _root_.Go.OpenSpec.ofChange s with cond := some uptoSmall }

/-- 'armillarylaw12.FactFinds', WHERE WHAT IT READS IS OF BULK AT MOST 1048576: true; the input reads as it did. -/
def factFindsUptoRow : OpenClaim := { program := "ytndophlnapjkhaagreatdoor", sum := "84c13d135b892771e0b59fb7f4e3184f66a43e4cd0df59e357f8520f4f4fe3a3", func := "armillary/armillarylaw12.FactFinds", spec := "factFinds", unfollowed := true, recurses := true, named := ["armillary/lex.keys"], plainKeys := false, apart := false, laid := [("armillary/lex.keys", laid_armillary_lex_keys)], narrowed := true }
def FactFindsUptoSaid : Prop := factFindsUptoRow.holds Tryz.pinned (OpenSpec.upto factFindsSpec)

/-- 'armillarylaw12.FactLooks', WHERE WHAT IT READS IS OF BULK AT MOST 1048576: true; the input reads as it did. -/
def factLooksUptoRow : OpenClaim := { program := "ytndophlnapjkhaagreatdoor", sum := "84c13d135b892771e0b59fb7f4e3184f66a43e4cd0df59e357f8520f4f4fe3a3", func := "armillary/armillarylaw12.FactLooks", spec := "factLooks", unfollowed := true, recurses := true, named := ["armillary/lex.keys"], plainKeys := false, apart := false, laid := [("armillary/lex.keys", laid_armillary_lex_keys)], narrowed := true }
def FactLooksUptoSaid : Prop := factLooksUptoRow.holds Tryz.pinned (OpenSpec.upto factLooksSpec)

/-- 'armillarylaw12.FactKnown', WHERE WHAT IT READS IS OF BULK AT MOST 1048576: true; the input reads as it did. -/
def factKnownUptoRow : OpenClaim := { program := "ytndophlnapjkhaagreatdoor", sum := "84c13d135b892771e0b59fb7f4e3184f66a43e4cd0df59e357f8520f4f4fe3a3", func := "armillary/armillarylaw12.FactKnown", spec := "factKnown", unfollowed := true, recurses := true, named := ["armillary/lex.keys"], plainKeys := false, apart := false, laid := [("armillary/lex.keys", laid_armillary_lex_keys)], narrowed := true }
def FactKnownUptoSaid : Prop := factKnownUptoRow.holds Tryz.pinned (OpenSpec.upto factKnownSpec)

end Rows
end Go.Proofs.YtndophlnapjkhaaGreatDoor
