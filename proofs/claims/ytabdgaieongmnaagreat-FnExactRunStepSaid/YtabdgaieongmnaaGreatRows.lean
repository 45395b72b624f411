/-
  No cell of these rows narrows 'for every input' (looked for: loops, veiled, ifaces, maps, wideKeys, modest, calm, conditions, laid).
  DERIVED. THE GIVEN ROWS OF THIS SEAT. 5 by the template 'for every input the law returns true; each argument reads behind the call as it read before'; 0 by the template 'total and deterministic' (their statements: YtabdgaieongmnaaGreatTotals.lean).
  GIVEN WITH THE SEED: the statements are not yours to turn. If you find one false, say at which input.
  Laid BY PROGRAM, IN A SANDBOX (cutbox-rows.mjs): the forced cells as the released guide's own fill.sh prints them over the translation acf205e0d9c6d2ec… (all of the seat's roots in one cut). By AI agents, Wed Nov 11 2026. No macro, syntax, notation, axiom, sorry.
-/
import Derived.Test.YtabdgaieongmnaaGreatChecked
import GoSem.Claim
import GoSem.ClaimJoined
import GoSem.ClaimMapViews
import Derived.JoinedTies
import Derived.KernelRfl
namespace Go.Proofs.YtabdgaieongmnaaGreat
/- THE CELL 'sum', in the pinned program and in every row, IS THE sha256 OF THE DUMP (.gsa) THAT YtabdgaieongmnaaGreatProg.lean LOADS. Nothing in Lean hashes anything: it is a label: what it is worth is what the hold of that sum in a sandbox is worth. -/
noncomputable def Tryz.pinned : Pinned := { name := "ytabdgaieongmnaagreat", sum := "acf205e0d9c6d2ecd0d63ecf39cf5c9b275910939cadc15fae322bbb73d0cfb5", checked := Tryz.checked }
namespace Rows
def none {H : Type} : Left H := { results := [], args := [] }

/-- 'laws.FnExactCost': WHATEVER THE INPUT: true; the input reads as it did. -/
def fnExactCostSpec : ChangeSpec := { name := "fnExactCost", fn := fun _ => fun
  | [d1, d2] => { results := [.lit (.bool true)], args := [d1, d2] }
  | _ => none }
def fnExactCostRow : OpenClaim := { program := "ytabdgaieongmnaagreat", sum := "acf205e0d9c6d2ecd0d63ecf39cf5c9b275910939cadc15fae322bbb73d0cfb5", func := "loop.example/g00485/laws.FnExactCost", spec := "fnExactCost", unfollowed := true, recurses := true, apart := false }
def FnExactCostSaid : Prop := fnExactCostRow.holds Tryz.pinned (OpenSpec.ofChange fnExactCostSpec)

/-- ITS FALSE NEIGHBOUR: 'it returns false'. Refute it at one input. -/
def fnExactCostWrong : ChangeSpec := { name := "fnExactCost", fn := fun _ => fun
  | [d1, d2] => { results := [.lit (.bool false)], args := [d1, d2] }
  | _ => none }
def FnExactCostWrongFalsely : Prop := fnExactCostRow.holds Tryz.pinned (OpenSpec.ofChange fnExactCostWrong)

/-- 'laws.FnExactRunStep': WHATEVER THE INPUT: true; the input reads as it did. -/
def fnExactRunStepSpec : ChangeSpec := { name := "fnExactRunStep", fn := fun _ => fun
  | [d1, d2, d3] => { results := [.lit (.bool true)], args := [d1, d2, d3] }
  | _ => none }
def fnExactRunStepRow : OpenClaim := { program := "ytabdgaieongmnaagreat", sum := "acf205e0d9c6d2ecd0d63ecf39cf5c9b275910939cadc15fae322bbb73d0cfb5", func := "loop.example/g00485/laws.FnExactRunStep", spec := "fnExactRunStep", unfollowed := true, recurses := true, apart := false }
def FnExactRunStepSaid : Prop := fnExactRunStepRow.holds Tryz.pinned (OpenSpec.ofChange fnExactRunStepSpec)

/-- ITS FALSE NEIGHBOUR: 'it returns false'. Refute it at one input. -/
def fnExactRunStepWrong : ChangeSpec := { name := "fnExactRunStep", fn := fun _ => fun
  | [d1, d2, d3] => { results := [.lit (.bool false)], args := [d1, d2, d3] }
  | _ => none }
def FnExactRunStepWrongFalsely : Prop := fnExactRunStepRow.holds Tryz.pinned (OpenSpec.ofChange fnExactRunStepWrong)

/-- 'laws.FnExactRunSome': WHATEVER THE INPUT: true; the input reads as it did. -/
def fnExactRunSomeSpec : ChangeSpec := { name := "fnExactRunSome", fn := fun _ => fun
  | [d1, d2, d3, d4] => { results := [.lit (.bool true)], args := [d1, d2, d3, d4] }
  | _ => none }
def fnExactRunSomeRow : OpenClaim := { program := "ytabdgaieongmnaagreat", sum := "acf205e0d9c6d2ecd0d63ecf39cf5c9b275910939cadc15fae322bbb73d0cfb5", func := "loop.example/g00485/laws.FnExactRunSome", spec := "fnExactRunSome", unfollowed := true, recurses := true, apart := false }
def FnExactRunSomeSaid : Prop := fnExactRunSomeRow.holds Tryz.pinned (OpenSpec.ofChange fnExactRunSomeSpec)

/-- ITS FALSE NEIGHBOUR: 'it returns false'. Refute it at one input. -/
def fnExactRunSomeWrong : ChangeSpec := { name := "fnExactRunSome", fn := fun _ => fun
  | [d1, d2, d3, d4] => { results := [.lit (.bool false)], args := [d1, d2, d3, d4] }
  | _ => none }
def FnExactRunSomeWrongFalsely : Prop := fnExactRunSomeRow.holds Tryz.pinned (OpenSpec.ofChange fnExactRunSomeWrong)

/-- 'laws.FnExactAhead': WHATEVER THE INPUT: true; the input reads as it did. -/
def fnExactAheadSpec : ChangeSpec := { name := "fnExactAhead", fn := fun _ => fun
  | [d1, d2, d3] => { results := [.lit (.bool true)], args := [d1, d2, d3] }
  | _ => none }
def fnExactAheadRow : OpenClaim := { program := "ytabdgaieongmnaagreat", sum := "acf205e0d9c6d2ecd0d63ecf39cf5c9b275910939cadc15fae322bbb73d0cfb5", func := "loop.example/g00485/laws.FnExactAhead", spec := "fnExactAhead", inPlace := ["slices.overlaps[loop.example/g00485/impl.Conf]"], unfollowed := true, recurses := true, apart := false }
def FnExactAheadSaid : Prop := fnExactAheadRow.holds Tryz.pinned (OpenSpec.ofChange fnExactAheadSpec)

/-- ITS FALSE NEIGHBOUR: 'it returns false'. Refute it at one input. -/
def fnExactAheadWrong : ChangeSpec := { name := "fnExactAhead", fn := fun _ => fun
  | [d1, d2, d3] => { results := [.lit (.bool false)], args := [d1, d2, d3] }
  | _ => none }
def FnExactAheadWrongFalsely : Prop := fnExactAheadRow.holds Tryz.pinned (OpenSpec.ofChange fnExactAheadWrong)

/-- 'laws.FnExactRegister': WHATEVER THE INPUT: true; the input reads as it did. -/
def fnExactRegisterSpec : ChangeSpec := { name := "fnExactRegister", fn := fun _ => fun
  | [d1, d2] => { results := [.lit (.bool true)], args := [d1, d2] }
  | _ => none }
def fnExactRegisterRow : OpenClaim := { program := "ytabdgaieongmnaagreat", sum := "acf205e0d9c6d2ecd0d63ecf39cf5c9b275910939cadc15fae322bbb73d0cfb5", func := "loop.example/g00485/laws.FnExactRegister", spec := "fnExactRegister", inPlace := ["slices.overlaps[loop.example/g00485/impl.Conf]", "internal/bytealg.IndexByteString"], unfollowed := true, recurses := true, apart := false }
def FnExactRegisterSaid : Prop := fnExactRegisterRow.holds Tryz.pinned (OpenSpec.ofChange fnExactRegisterSpec)

/-- ITS FALSE NEIGHBOUR: 'it returns false'. Refute it at one input. -/
def fnExactRegisterWrong : ChangeSpec := { name := "fnExactRegister", fn := fun _ => fun
  | [d1, d2] => { results := [.lit (.bool false)], args := [d1, d2] }
  | _ => none }
def FnExactRegisterWrongFalsely : Prop := fnExactRegisterRow.holds Tryz.pinned (OpenSpec.ofChange fnExactRegisterWrong)

/- THE SECOND FORM. 'bulk': how many values and letters a reading holds, each counted each time it is reached (what is shared counts as often as it is met; a slice's spare places count too). A statement '..UptoSaid' is the law's where the arguments, and the package variables that the reading takes, are together of bulk at most 1048576: NARROWER than '..Said'. Prove '..Said' where nothing that the law and all that it calls make is longer than what came in: it says more and counts as full. Else prove '..UptoSaid'. A law counts once. -/
mutual
def uptoBulk {H : Type} : DataW H → Nat
  | .lit (.string bytes) => bytes.length + 1
  | .lit _ => 1
  | .nil => 1
  | .ptr d => uptoBulk d + 1
  | .slice elems spare => uptoBulkAll elems + uptoBulkAll spare + 1
  | .agg parts => uptoBulkAll parts + 1
  | .iface _ d => uptoBulk d + 1
  | .map entries => uptoBulkEntries entries + 1
  | .held _ => 1
def uptoBulkAll {H : Type} : List (DataW H) → Nat
  | [] => 0
  | d :: r => uptoBulk d + uptoBulkAll r
def uptoBulkEntries {H : Type} : List (Lit × DataW H) → Nat
  | [] => 0
  | x :: r => uptoBulkEntry x + uptoBulkEntries r
def uptoBulkEntry {H : Type} : Lit × DataW H → Nat
  | (.string bytes, d) => bytes.length + uptoBulk d + 1
  | (_, d) => uptoBulk d + 1
 end
def uptoSmall : (H : Type) → List (DataW H) → Bool := fun _ ds => decide (uptoBulkAll ds ≤ 1048576)
def OpenSpec.upto (s : _root_.Go.ChangeSpec) : _root_.Go.OpenSpec := { _root_.Go.OpenSpec.ofChange s with cond := some uptoSmall }

/-- 'laws.FnExactCost', WHERE WHAT IT READS IS OF BULK AT MOST 1048576: true; the input reads as it did. -/
def fnExactCostUptoRow : OpenClaim := { program := "ytabdgaieongmnaagreat", sum := "acf205e0d9c6d2ecd0d63ecf39cf5c9b275910939cadc15fae322bbb73d0cfb5", func := "loop.example/g00485/laws.FnExactCost", spec := "fnExactCost", unfollowed := true, recurses := true, apart := false, narrowed := true }
def FnExactCostUptoSaid : Prop := fnExactCostUptoRow.holds Tryz.pinned (OpenSpec.upto fnExactCostSpec)

/-- 'laws.FnExactRunStep', WHERE WHAT IT READS IS OF BULK AT MOST 1048576: true; the input reads as it did. -/
def fnExactRunStepUptoRow : OpenClaim := { program := "ytabdgaieongmnaagreat", sum := "acf205e0d9c6d2ecd0d63ecf39cf5c9b275910939cadc15fae322bbb73d0cfb5", func := "loop.example/g00485/laws.FnExactRunStep", spec := "fnExactRunStep", unfollowed := true, recurses := true, apart := false, narrowed := true }
def FnExactRunStepUptoSaid : Prop := fnExactRunStepUptoRow.holds Tryz.pinned (OpenSpec.upto fnExactRunStepSpec)

/-- 'laws.FnExactRunSome', WHERE WHAT IT READS IS OF BULK AT MOST 1048576: true; the input reads as it did. -/
def fnExactRunSomeUptoRow : OpenClaim := { program := "ytabdgaieongmnaagreat", sum := "acf205e0d9c6d2ecd0d63ecf39cf5c9b275910939cadc15fae322bbb73d0cfb5", func := "loop.example/g00485/laws.FnExactRunSome", spec := "fnExactRunSome", unfollowed := true, recurses := true, apart := false, narrowed := true }
def FnExactRunSomeUptoSaid : Prop := fnExactRunSomeUptoRow.holds Tryz.pinned (OpenSpec.upto fnExactRunSomeSpec)

/-- 'laws.FnExactAhead', WHERE WHAT IT READS IS OF BULK AT MOST 1048576: true; the input reads as it did. -/
def fnExactAheadUptoRow : OpenClaim := { program := "ytabdgaieongmnaagreat", sum := "acf205e0d9c6d2ecd0d63ecf39cf5c9b275910939cadc15fae322bbb73d0cfb5", func := "loop.example/g00485/laws.FnExactAhead", spec := "fnExactAhead", inPlace := ["slices.overlaps[loop.example/g00485/impl.Conf]"], unfollowed := true, recurses := true, apart := false, narrowed := true }
def FnExactAheadUptoSaid : Prop := fnExactAheadUptoRow.holds Tryz.pinned (OpenSpec.upto fnExactAheadSpec)

/-- 'laws.FnExactRegister', WHERE WHAT IT READS IS OF BULK AT MOST 1048576: true; the input reads as it did. -/
def fnExactRegisterUptoRow : OpenClaim := { program := "ytabdgaieongmnaagreat", sum := "acf205e0d9c6d2ecd0d63ecf39cf5c9b275910939cadc15fae322bbb73d0cfb5", func := "loop.example/g00485/laws.FnExactRegister", spec := "fnExactRegister", inPlace := ["slices.overlaps[loop.example/g00485/impl.Conf]", "internal/bytealg.IndexByteString"], unfollowed := true, recurses := true, apart := false, narrowed := true }
def FnExactRegisterUptoSaid : Prop := fnExactRegisterUptoRow.holds Tryz.pinned (OpenSpec.upto fnExactRegisterSpec)

end Rows
end Go.Proofs.YtabdgaieongmnaaGreat
