/-
  No cell of these rows narrows 'for every input' (looked for: loops, veiled, ifaces, maps, wideKeys, modest, calm, conditions, laid).
  DERIVED. THE GIVEN ROWS OF THIS SEAT. 6 by the template 'for every input the law returns true; each argument reads behind the call as it read before'; 0 by the template 'total and deterministic' (their statements: YtojgdmcojmllkaaTotals.lean).
  GIVEN WITH THE SEED: the statements are not yours to turn. If you find one false, say at which input.
  Laid BY PROGRAM, IN A SANDBOX (cutbox-rows.mjs): the forced cells as the released guide's own fill.sh prints them over the translation 4f5f2f859c9e0ad8… (all of the seat's roots in one cut). By AI agents, Wed Nov 11 2026. No macro, syntax, notation, axiom, sorry.
-/
import Derived.Test.YtojgdmcojmllkaaChecked
import GoSem.Claim
import GoSem.ClaimJoined
import GoSem.ClaimMapViews
import Derived.JoinedTies
import Derived.KernelRfl
namespace Go.Proofs.Ytojgdmcojmllkaa
/- THE CELL 'sum', in the pinned program and in every row, IS THE sha256 OF THE DUMP (.gsa) THAT YtojgdmcojmllkaaProg.lean LOADS. Nothing in Lean hashes anything: it is a label: what it is worth is what the hold of that sum in a sandbox is worth. -/
noncomputable def Try.pinned : Pinned := { name := "ytojgdmcojmllkaa", sum := "4f5f2f859c9e0ad87bbaf40bab59256f2f420253e7bf039e2722c1760b71c340", checked := Try.checked }
namespace Rows
def none {H : Type} : Left H := { results := [], args := [] }

/-- 'headgatelaw28.SessionsAdd': WHATEVER THE INPUT: true; the input reads as it did. -/
def sessionsAddSpec : ChangeSpec := { name := "sessionsAdd", fn := fun _ => fun
  | [d1, d2, d3, d4] => { results := [.lit (.bool true)], args := [d1, d2, d3, d4] }
  | _ => none }
def sessionsAddRow : OpenClaim := { program := "ytojgdmcojmllkaa", sum := "4f5f2f859c9e0ad87bbaf40bab59256f2f420253e7bf039e2722c1760b71c340", func := "headgate/headgatelaw28.SessionsAdd", spec := "sessionsAdd", unfollowed := true, recurses := true, apart := false }
def SessionsAddSaid : Prop := sessionsAddRow.holds Try.pinned (OpenSpec.ofChange sessionsAddSpec)

/-- ITS FALSE NEIGHBOUR: 'it returns false'. Refute it at one input. -/
def sessionsAddWrong : ChangeSpec := { name := "sessionsAdd", fn := fun _ => fun
  | [d1, d2, d3, d4] => { results := [.lit (.bool false)], args := [d1, d2, d3, d4] }
  | _ => none }
def SessionsAddWrongFalsely : Prop := sessionsAddRow.holds Try.pinned (OpenSpec.ofChange sessionsAddWrong)

/-- 'headgatelaw28.SessionsRun': WHATEVER THE INPUT: true; the input reads as it did. -/
def sessionsRunSpec : ChangeSpec := { name := "sessionsRun", fn := fun _ => fun
  | [d1, d2] => { results := [.lit (.bool true)], args := [d1, d2] }
  | _ => none }
def sessionsRunRow : OpenClaim := { program := "ytojgdmcojmllkaa", sum := "4f5f2f859c9e0ad87bbaf40bab59256f2f420253e7bf039e2722c1760b71c340", func := "headgate/headgatelaw28.SessionsRun", spec := "sessionsRun", unfollowed := true, recurses := true, apart := false }
def SessionsRunSaid : Prop := sessionsRunRow.holds Try.pinned (OpenSpec.ofChange sessionsRunSpec)

/-- ITS FALSE NEIGHBOUR: 'it returns false'. Refute it at one input. -/
def sessionsRunWrong : ChangeSpec := { name := "sessionsRun", fn := fun _ => fun
  | [d1, d2] => { results := [.lit (.bool false)], args := [d1, d2] }
  | _ => none }
def SessionsRunWrongFalsely : Prop := sessionsRunRow.holds Try.pinned (OpenSpec.ofChange sessionsRunWrong)

/-- 'headgatelaw28.SessionsOnce': WHATEVER THE INPUT: true; the input reads as it did. -/
def sessionsOnceSpec : ChangeSpec := { name := "sessionsOnce", fn := fun _ => fun
  | [d1, d2] => { results := [.lit (.bool true)], args := [d1, d2] }
  | _ => none }
def sessionsOnceRow : OpenClaim := { program := "ytojgdmcojmllkaa", sum := "4f5f2f859c9e0ad87bbaf40bab59256f2f420253e7bf039e2722c1760b71c340", func := "headgate/headgatelaw28.SessionsOnce", spec := "sessionsOnce", unfollowed := true, recurses := true, apart := false }
def SessionsOnceSaid : Prop := sessionsOnceRow.holds Try.pinned (OpenSpec.ofChange sessionsOnceSpec)

/-- ITS FALSE NEIGHBOUR: 'it returns false'. Refute it at one input. -/
def sessionsOnceWrong : ChangeSpec := { name := "sessionsOnce", fn := fun _ => fun
  | [d1, d2] => { results := [.lit (.bool false)], args := [d1, d2] }
  | _ => none }
def SessionsOnceWrongFalsely : Prop := sessionsOnceRow.holds Try.pinned (OpenSpec.ofChange sessionsOnceWrong)

/-- 'headgatelaw28.SessionsOrder': WHATEVER THE INPUT: true; the input reads as it did. -/
def sessionsOrderSpec : ChangeSpec := { name := "sessionsOrder", fn := fun _ => fun
  | [d1, d2, d3] => { results := [.lit (.bool true)], args := [d1, d2, d3] }
  | _ => none }
def sessionsOrderRow : OpenClaim := { program := "ytojgdmcojmllkaa", sum := "4f5f2f859c9e0ad87bbaf40bab59256f2f420253e7bf039e2722c1760b71c340", func := "headgate/headgatelaw28.SessionsOrder", spec := "sessionsOrder", unfollowed := true, recurses := true, apart := false }
def SessionsOrderSaid : Prop := sessionsOrderRow.holds Try.pinned (OpenSpec.ofChange sessionsOrderSpec)

/-- ITS FALSE NEIGHBOUR: 'it returns false'. Refute it at one input. -/
def sessionsOrderWrong : ChangeSpec := { name := "sessionsOrder", fn := fun _ => fun
  | [d1, d2, d3] => { results := [.lit (.bool false)], args := [d1, d2, d3] }
  | _ => none }
def SessionsOrderWrongFalsely : Prop := sessionsOrderRow.holds Try.pinned (OpenSpec.ofChange sessionsOrderWrong)

/-- 'headgatelaw28.SessionsWhole': WHATEVER THE INPUT: true; the input reads as it did. -/
def sessionsWholeSpec : ChangeSpec := { name := "sessionsWhole", fn := fun _ => fun
  | [d1, d2] => { results := [.lit (.bool true)], args := [d1, d2] }
  | _ => none }
def sessionsWholeRow : OpenClaim := { program := "ytojgdmcojmllkaa", sum := "4f5f2f859c9e0ad87bbaf40bab59256f2f420253e7bf039e2722c1760b71c340", func := "headgate/headgatelaw28.SessionsWhole", spec := "sessionsWhole", unfollowed := true, recurses := true, apart := false }
def SessionsWholeSaid : Prop := sessionsWholeRow.holds Try.pinned (OpenSpec.ofChange sessionsWholeSpec)

/-- ITS FALSE NEIGHBOUR: 'it returns false'. Refute it at one input. -/
def sessionsWholeWrong : ChangeSpec := { name := "sessionsWhole", fn := fun _ => fun
  | [d1, d2] => { results := [.lit (.bool false)], args := [d1, d2] }
  | _ => none }
def SessionsWholeWrongFalsely : Prop := sessionsWholeRow.holds Try.pinned (OpenSpec.ofChange sessionsWholeWrong)

/-- 'headgatelaw28.SessionsResult': WHATEVER THE INPUT: true; the input reads as it did. -/
def sessionsResultSpec : ChangeSpec := { name := "sessionsResult", fn := fun _ => fun
  | [d] => { results := [.lit (.bool true)], args := [d] }
  | _ => none }
def sessionsResultRow : OpenClaim := { program := "ytojgdmcojmllkaa", sum := "4f5f2f859c9e0ad87bbaf40bab59256f2f420253e7bf039e2722c1760b71c340", func := "headgate/headgatelaw28.SessionsResult", spec := "sessionsResult", unfollowed := true, recurses := true, apart := false }
def SessionsResultSaid : Prop := sessionsResultRow.holds Try.pinned (OpenSpec.ofChange sessionsResultSpec)

/-- ITS FALSE NEIGHBOUR: 'it returns false'. Refute it at one input. -/
def sessionsResultWrong : ChangeSpec := { name := "sessionsResult", fn := fun _ => fun
  | [d] => { results := [.lit (.bool false)], args := [d] }
  | _ => none }
def SessionsResultWrongFalsely : Prop := sessionsResultRow.holds Try.pinned (OpenSpec.ofChange sessionsResultWrong)

/- THE SECOND FORM. 'bulk': how many values and letters a reading holds, each counted each time it is reached (what is shared counts as often as it is met; a slice's spare places count too). A statement '..UptoSaid' is the law's where the arguments, and the package variables that the reading takes, are together of bulk at most 1048576: NARROWER than '..Said'. Prove '..Said' where nothing that the law and all that it calls make is longer than what came in: it says more and counts as full. Else prove '..UptoSaid'. A law counts once. -/
mutual
def uptoBulk {H : Type} : DataW H → Nat
  | .lit (.string bytes) => bytes.length + 1
  | .lit _ => 1
  | .nil => 1
  | .ptr d => uptoBulk d + 1
  | .slice elems spare => uptoBulkAll elems + uptoBulkAll spare + 1
  | .agg parts => uptoBulkAll parts + 1
  | .iface _ d => uptoBulk d + 1
  | .map entries => uptoBulkEntries entries + 1
  | .held _ => 1
def uptoBulkAll {H : Type} : List (DataW H) → Nat
  | [] => 0
  | d :: r => uptoBulk d + uptoBulkAll r
def uptoBulkEntries {H : Type} : List (Lit × DataW H) → Nat
  | [] => 0
  | x :: r => uptoBulkEntry x + uptoBulkEntries r
def uptoBulkEntry {H : Type} : Lit × DataW H → Nat
  | (.string bytes, d) => bytes.length + uptoBulk d + 1
  | (_, d) => uptoBulk d + 1
 end
def uptoSmall : (H : Type) → List (DataW H) → Bool := fun _ ds => decide (uptoBulkAll ds ≤ 1048576)
def OpenSpec.upto (s : _root_.Go.ChangeSpec) : _root_.Go.OpenSpec := { _root_.Go.OpenSpec.ofChange s with cond := some uptoSmall }

/-- 'headgatelaw28.SessionsAdd', WHERE WHAT IT READS IS OF BULK AT MOST 1048576: true; the input reads as it did. -/
def sessionsAddUptoRow : OpenClaim := { program := "ytojgdmcojmllkaa", sum := "4f5f2f859c9e0ad87bbaf40bab59256f2f420253e7bf039e2722c1760b71c340", func := "headgate/headgatelaw28.SessionsAdd", spec := "sessionsAdd", unfollowed := true, recurses := true, apart := false, narrowed := true }
def SessionsAddUptoSaid : Prop := sessionsAddUptoRow.holds Try.pinned (OpenSpec.upto sessionsAddSpec)

/-- 'headgatelaw28.SessionsRun', WHERE WHAT IT READS IS OF BULK AT MOST 1048576: true; the input reads as it did. -/
def sessionsRunUptoRow : OpenClaim := { program := "ytojgdmcojmllkaa", sum := "4f5f2f859c9e0ad87bbaf40bab59256f2f420253e7bf039e2722c1760b71c340", func := "headgate/headgatelaw28.SessionsRun", spec := "sessionsRun", unfollowed := true, recurses := true, apart := false, narrowed := true }
def SessionsRunUptoSaid : Prop := sessionsRunUptoRow.holds Try.pinned (OpenSpec.upto sessionsRunSpec)

/-- 'headgatelaw28.SessionsOnce', WHERE WHAT IT READS IS OF BULK AT MOST 1048576: true; the input reads as it did. -/
def sessionsOnceUptoRow : OpenClaim := { program := "ytojgdmcojmllkaa", sum := "4f5f2f859c9e0ad87bbaf40bab59256f2f420253e7bf039e2722c1760b71c340", func := "headgate/headgatelaw28.SessionsOnce", spec := "sessionsOnce", unfollowed := true, recurses := true, apart := false, narrowed := true }
def SessionsOnceUptoSaid : Prop := sessionsOnceUptoRow.holds Try.pinned (OpenSpec.upto sessionsOnceSpec)

/-- 'headgatelaw28.SessionsOrder', WHERE WHAT IT READS IS OF BULK AT MOST 1048576: true; the input reads as it did. -/
def sessionsOrderUptoRow : OpenClaim := { program := "ytojgdmcojmllkaa", sum := "4f5f2f859c9e0ad87bbaf40bab59256f2f420253e7bf039e2722c1760b71c340", func := "headgate/headgatelaw28.SessionsOrder", spec := "sessionsOrder", unfollowed := true, recurses := true, apart := false, narrowed := true }
def SessionsOrderUptoSaid : Prop := sessionsOrderUptoRow.holds Try.pinned (OpenSpec.upto sessionsOrderSpec)

/-- 'headgatelaw28.SessionsWhole', WHERE WHAT IT READS IS OF BULK AT MOST 1048576: true; the input reads as it did. -/
def sessionsWholeUptoRow : OpenClaim := { program := "ytojgdmcojmllkaa", sum := "4f5f2f859c9e0ad87bbaf40bab59256f2f420253e7bf039e2722c1760b71c340", func := "headgate/headgatelaw28.SessionsWhole", spec := "sessionsWhole", unfollowed := true, recurses := true, apart := false, narrowed := true }
def SessionsWholeUptoSaid : Prop := sessionsWholeUptoRow.holds Try.pinned (OpenSpec.upto sessionsWholeSpec)

/-- 'headgatelaw28.SessionsResult', WHERE WHAT IT READS IS OF BULK AT MOST 1048576: true; the input reads as it did. -/
def sessionsResultUptoRow : OpenClaim := { program := "ytojgdmcojmllkaa", sum := "4f5f2f859c9e0ad87bbaf40bab59256f2f420253e7bf039e2722c1760b71c340", func := "headgate/headgatelaw28.SessionsResult", spec := "sessionsResult", unfollowed := true, recurses := true, apart := false, narrowed := true }
def SessionsResultUptoSaid : Prop := sessionsResultUptoRow.holds Try.pinned (OpenSpec.upto sessionsResultSpec)

end Rows
end Go.Proofs.Ytojgdmcojmllkaa
