/-
  No cell of these rows narrows 'for every input' (looked for: loops, veiled, ifaces, maps, wideKeys, modest, calm, conditions, laid).
  DERIVED. THE GIVEN ROWS OF THIS SEAT. 10 by the template 'for every input the law returns true; each argument reads behind the call as it read before'; 0 by the template 'total and deterministic' (their statements: YtfobegppbaljpaaGreatTotals.lean).
  GIVEN WITH THE SEED: the statements are not yours to turn. If you find one false, say at which input.
  Laid BY PROGRAM, IN A SANDBOX (cutbox-rows.mjs): the forced cells as the released guide's own fill.sh prints them over the translation 756465bc8a0f6359… (all of the seat's roots in one cut). By AI agents, Wed Nov 11 2026. No macro, syntax, notation, axiom, sorry.
-/
import Derived.Test.YtfobegppbaljpaaGreatChecked
import GoSem.Claim
import GoSem.ClaimJoined
import GoSem.ClaimMapViews
import Derived.JoinedTies
import Derived.KernelRfl
namespace Go.Proofs.YtfobegppbaljpaaGreat
/- THE CELL 'sum', in the pinned program and in every row, IS THE sha256 OF THE DUMP (.gsa) THAT YtfobegppbaljpaaGreatProg.lean LOADS. Nothing in Lean hashes anything: it is a label: what it is worth is what the hold of that sum in a sandbox is worth. -/
noncomputable def Tryz.pinned : Pinned := { name := "ytfobegppbaljpaagreat", sum := "756465bc8a0f635943b02fc37095f864754328ef19f2e32aeb0e51bf408a6c0f", checked := Tryz.checked }
namespace Rows
def none {H : Type} : Left H := { results := [], args := [] }

/-- 'laws.FnExactCost': WHATEVER THE INPUT: true; the input reads as it did. -/
def fnExactCostSpec : ChangeSpec := { name := "fnExactCost", fn := fun _ => fun
  | [d1, d2] => { results := [.lit (.bool true)], args := [d1, d2] }
  | _ => none }
def fnExactCostRow : OpenClaim := { program := "ytfobegppbaljpaagreat", sum := "756465bc8a0f635943b02fc37095f864754328ef19f2e32aeb0e51bf408a6c0f", func := "loop.example/g00485/laws.FnExactCost", spec := "fnExactCost", unfollowed := true, recurses := true, apart := false }
def FnExactCostSaid : Prop := fnExactCostRow.holds Tryz.pinned (OpenSpec.ofChange fnExactCostSpec)

/-- ITS FALSE NEIGHBOUR: 'it returns false'. Refute it at one input. -/
def fnExactCostWrong : ChangeSpec := { name := "fnExactCost", fn := fun _ => fun
  | [d1, d2] => { results := [.lit (.bool false)], args := [d1, d2] }
  | _ => none }
def FnExactCostWrongFalsely : Prop := fnExactCostRow.holds Tryz.pinned (OpenSpec.ofChange fnExactCostWrong)

/-- 'laws.FnExactStoreMove': WHATEVER THE INPUT: true; the input reads as it did. -/
def fnExactStoreMoveSpec : ChangeSpec := { name := "fnExactStoreMove", fn := fun _ => fun
  | [d1, d2, d3, d4] => { results := [.lit (.bool true)], args := [d1, d2, d3, d4] }
  | _ => none }
def fnExactStoreMoveRow : OpenClaim := { program := "ytfobegppbaljpaagreat", sum := "756465bc8a0f635943b02fc37095f864754328ef19f2e32aeb0e51bf408a6c0f", func := "loop.example/g00485/laws.FnExactStoreMove", spec := "fnExactStoreMove", inPlace := ["slices.overlaps[loop.example/g00485/impl.Conf]"], unfollowed := true, recurses := true, apart := false }
def FnExactStoreMoveSaid : Prop := fnExactStoreMoveRow.holds Tryz.pinned (OpenSpec.ofChange fnExactStoreMoveSpec)

/-- ITS FALSE NEIGHBOUR: 'it returns false'. Refute it at one input. -/
def fnExactStoreMoveWrong : ChangeSpec := { name := "fnExactStoreMove", fn := fun _ => fun
  | [d1, d2, d3, d4] => { results := [.lit (.bool false)], args := [d1, d2, d3, d4] }
  | _ => none }
def FnExactStoreMoveWrongFalsely : Prop := fnExactStoreMoveRow.holds Tryz.pinned (OpenSpec.ofChange fnExactStoreMoveWrong)

/-- 'laws.FnExactStoreLook': WHATEVER THE INPUT: true; the input reads as it did. -/
def fnExactStoreLookSpec : ChangeSpec := { name := "fnExactStoreLook", fn := fun _ => fun
  | [d1, d2, d3, d4, d5, d6] => { results := [.lit (.bool true)], args := [d1, d2, d3, d4, d5, d6] }
  | _ => none }
def fnExactStoreLookRow : OpenClaim := { program := "ytfobegppbaljpaagreat", sum := "756465bc8a0f635943b02fc37095f864754328ef19f2e32aeb0e51bf408a6c0f", func := "loop.example/g00485/laws.FnExactStoreLook", spec := "fnExactStoreLook", inPlace := ["slices.overlaps[loop.example/g00485/impl.Conf]", "slices.overlaps[int]"], unfollowed := true, recurses := true, apart := false }
def FnExactStoreLookSaid : Prop := fnExactStoreLookRow.holds Tryz.pinned (OpenSpec.ofChange fnExactStoreLookSpec)

/-- ITS FALSE NEIGHBOUR: 'it returns false'. Refute it at one input. -/
def fnExactStoreLookWrong : ChangeSpec := { name := "fnExactStoreLook", fn := fun _ => fun
  | [d1, d2, d3, d4, d5, d6] => { results := [.lit (.bool false)], args := [d1, d2, d3, d4, d5, d6] }
  | _ => none }
def FnExactStoreLookWrongFalsely : Prop := fnExactStoreLookRow.holds Tryz.pinned (OpenSpec.ofChange fnExactStoreLookWrong)

/-- 'laws.FnExactRunStep': WHATEVER THE INPUT: true; the input reads as it did. -/
def fnExactRunStepSpec : ChangeSpec := { name := "fnExactRunStep", fn := fun _ => fun
  | [d1, d2, d3] => { results := [.lit (.bool true)], args := [d1, d2, d3] }
  | _ => none }
def fnExactRunStepRow : OpenClaim := { program := "ytfobegppbaljpaagreat", sum := "756465bc8a0f635943b02fc37095f864754328ef19f2e32aeb0e51bf408a6c0f", func := "loop.example/g00485/laws.FnExactRunStep", spec := "fnExactRunStep", unfollowed := true, recurses := true, apart := false }
def FnExactRunStepSaid : Prop := fnExactRunStepRow.holds Tryz.pinned (OpenSpec.ofChange fnExactRunStepSpec)

/-- ITS FALSE NEIGHBOUR: 'it returns false'. Refute it at one input. -/
def fnExactRunStepWrong : ChangeSpec := { name := "fnExactRunStep", fn := fun _ => fun
  | [d1, d2, d3] => { results := [.lit (.bool false)], args := [d1, d2, d3] }
  | _ => none }
def FnExactRunStepWrongFalsely : Prop := fnExactRunStepRow.holds Tryz.pinned (OpenSpec.ofChange fnExactRunStepWrong)

/-- 'laws.FnExactRunSome': WHATEVER THE INPUT: true; the input reads as it did. -/
def fnExactRunSomeSpec : ChangeSpec := { name := "fnExactRunSome", fn := fun _ => fun
  | [d1, d2, d3, d4] => { results := [.lit (.bool true)], args := [d1, d2, d3, d4] }
  | _ => none }
def fnExactRunSomeRow : OpenClaim := { program := "ytfobegppbaljpaagreat", sum := "756465bc8a0f635943b02fc37095f864754328ef19f2e32aeb0e51bf408a6c0f", func := "loop.example/g00485/laws.FnExactRunSome", spec := "fnExactRunSome", unfollowed := true, recurses := true, apart := false }
def FnExactRunSomeSaid : Prop := fnExactRunSomeRow.holds Tryz.pinned (OpenSpec.ofChange fnExactRunSomeSpec)

/-- ITS FALSE NEIGHBOUR: 'it returns false'. Refute it at one input. -/
def fnExactRunSomeWrong : ChangeSpec := { name := "fnExactRunSome", fn := fun _ => fun
  | [d1, d2, d3, d4] => { results := [.lit (.bool false)], args := [d1, d2, d3, d4] }
  | _ => none }
def FnExactRunSomeWrongFalsely : Prop := fnExactRunSomeRow.holds Tryz.pinned (OpenSpec.ofChange fnExactRunSomeWrong)

/-- 'laws.FnExactHouseNew': WHATEVER THE INPUT: true; the input reads as it did. -/
def fnExactHouseNewSpec : ChangeSpec := { name := "fnExactHouseNew", fn := fun _ => fun
  | [d1, d2] => { results := [.lit (.bool true)], args := [d1, d2] }
  | _ => none }
def fnExactHouseNewRow : OpenClaim := { program := "ytfobegppbaljpaagreat", sum := "756465bc8a0f635943b02fc37095f864754328ef19f2e32aeb0e51bf408a6c0f", func := "loop.example/g00485/laws.FnExactHouseNew", spec := "fnExactHouseNew", inPlace := ["slices.overlaps[loop.example/g00485/impl.Conf]"], unfollowed := true, recurses := true, apart := false }
def FnExactHouseNewSaid : Prop := fnExactHouseNewRow.holds Tryz.pinned (OpenSpec.ofChange fnExactHouseNewSpec)

/-- ITS FALSE NEIGHBOUR: 'it returns false'. Refute it at one input. -/
def fnExactHouseNewWrong : ChangeSpec := { name := "fnExactHouseNew", fn := fun _ => fun
  | [d1, d2] => { results := [.lit (.bool false)], args := [d1, d2] }
  | _ => none }
def FnExactHouseNewWrongFalsely : Prop := fnExactHouseNewRow.holds Tryz.pinned (OpenSpec.ofChange fnExactHouseNewWrong)

/-- 'laws.FnExactHouseOk': WHATEVER THE INPUT: true; the input reads as it did. -/
def fnExactHouseOkSpec : ChangeSpec := { name := "fnExactHouseOk", fn := fun _ => fun
  | [d] => { results := [.lit (.bool true)], args := [d] }
  | _ => none }
def fnExactHouseOkRow : OpenClaim := { program := "ytfobegppbaljpaagreat", sum := "756465bc8a0f635943b02fc37095f864754328ef19f2e32aeb0e51bf408a6c0f", func := "loop.example/g00485/laws.FnExactHouseOk", spec := "fnExactHouseOk", inPlace := ["slices.overlaps[loop.example/g00485/impl.Conf]"], unfollowed := true, recurses := true, apart := false }
def FnExactHouseOkSaid : Prop := fnExactHouseOkRow.holds Tryz.pinned (OpenSpec.ofChange fnExactHouseOkSpec)

/-- ITS FALSE NEIGHBOUR: 'it returns false'. Refute it at one input. -/
def fnExactHouseOkWrong : ChangeSpec := { name := "fnExactHouseOk", fn := fun _ => fun
  | [d] => { results := [.lit (.bool false)], args := [d] }
  | _ => none }
def FnExactHouseOkWrongFalsely : Prop := fnExactHouseOkRow.holds Tryz.pinned (OpenSpec.ofChange fnExactHouseOkWrong)

/-- 'laws.FnExactBound': WHATEVER THE INPUT: true; the input reads as it did. -/
def fnExactBoundSpec : ChangeSpec := { name := "fnExactBound", fn := fun _ => fun
  | [d] => { results := [.lit (.bool true)], args := [d] }
  | _ => none }
def fnExactBoundRow : OpenClaim := { program := "ytfobegppbaljpaagreat", sum := "756465bc8a0f635943b02fc37095f864754328ef19f2e32aeb0e51bf408a6c0f", func := "loop.example/g00485/laws.FnExactBound", spec := "fnExactBound", inPlace := ["slices.overlaps[loop.example/g00485/impl.Conf]"], unfollowed := true, recurses := true, apart := false }
def FnExactBoundSaid : Prop := fnExactBoundRow.holds Tryz.pinned (OpenSpec.ofChange fnExactBoundSpec)

/-- ITS FALSE NEIGHBOUR: 'it returns false'. Refute it at one input. -/
def fnExactBoundWrong : ChangeSpec := { name := "fnExactBound", fn := fun _ => fun
  | [d] => { results := [.lit (.bool false)], args := [d] }
  | _ => none }
def FnExactBoundWrongFalsely : Prop := fnExactBoundRow.holds Tryz.pinned (OpenSpec.ofChange fnExactBoundWrong)

/-- 'laws.FnExactPending': WHATEVER THE INPUT: true; the input reads as it did. -/
def fnExactPendingSpec : ChangeSpec := { name := "fnExactPending", fn := fun _ => fun
  | [d] => { results := [.lit (.bool true)], args := [d] }
  | _ => none }
def fnExactPendingRow : OpenClaim := { program := "ytfobegppbaljpaagreat", sum := "756465bc8a0f635943b02fc37095f864754328ef19f2e32aeb0e51bf408a6c0f", func := "loop.example/g00485/laws.FnExactPending", spec := "fnExactPending", inPlace := ["slices.overlaps[loop.example/g00485/impl.Conf]"], unfollowed := true, recurses := true, apart := false }
def FnExactPendingSaid : Prop := fnExactPendingRow.holds Tryz.pinned (OpenSpec.ofChange fnExactPendingSpec)

/-- ITS FALSE NEIGHBOUR: 'it returns false'. Refute it at one input. -/
def fnExactPendingWrong : ChangeSpec := { name := "fnExactPending", fn := fun _ => fun
  | [d] => { results := [.lit (.bool false)], args := [d] }
  | _ => none }
def FnExactPendingWrongFalsely : Prop := fnExactPendingRow.holds Tryz.pinned (OpenSpec.ofChange fnExactPendingWrong)

/-- 'laws.FnExactScore': WHATEVER THE INPUT: true; the input reads as it did. -/
def fnExactScoreSpec : ChangeSpec := { name := "fnExactScore", fn := fun _ => fun
  | [d1, d2] => { results := [.lit (.bool true)], args := [d1, d2] }
  | _ => none }
def fnExactScoreRow : OpenClaim := { program := "ytfobegppbaljpaagreat", sum := "756465bc8a0f635943b02fc37095f864754328ef19f2e32aeb0e51bf408a6c0f", func := "loop.example/g00485/laws.FnExactScore", spec := "fnExactScore", inPlace := ["slices.overlaps[loop.example/g00485/impl.Conf]"], unfollowed := true, recurses := true, apart := false }
def FnExactScoreSaid : Prop := fnExactScoreRow.holds Tryz.pinned (OpenSpec.ofChange fnExactScoreSpec)

/-- ITS FALSE NEIGHBOUR: 'it returns false'. Refute it at one input. -/
def fnExactScoreWrong : ChangeSpec := { name := "fnExactScore", fn := fun _ => fun
  | [d1, d2] => { results := [.lit (.bool false)], args := [d1, d2] }
  | _ => none }
def FnExactScoreWrongFalsely : Prop := fnExactScoreRow.holds Tryz.pinned (OpenSpec.ofChange fnExactScoreWrong)

/- THE SECOND FORM. 'bulk': how many values and letters a reading holds, each counted each time it is reached (what is shared counts as often as it is met; a slice's spare places count too). A statement '..UptoSaid' is the law's where the arguments, and the package variables that the reading takes, are together of bulk at most 1048576: NARROWER than '..Said'. Prove '..Said' where nothing that the law and all that it calls make is longer than what came in: it says more and counts as full. Else prove '..UptoSaid'. A law counts once. -/
mutual
def uptoBulk {H : Type} : DataW H → Nat
  | .lit (.string bytes) => bytes.length + 1
  | .lit _ => 1
  | .nil => 1
  | .ptr d => uptoBulk d + 1
  | .slice elems spare => uptoBulkAll elems + uptoBulkAll spare + 1
  | .agg parts => uptoBulkAll parts + 1
  | .iface _ d => uptoBulk d + 1
  | .map entries => uptoBulkEntries entries + 1
  | .held _ => 1
def uptoBulkAll {H : Type} : List (DataW H) → Nat
  | [] => 0
  | d :: r => uptoBulk d + uptoBulkAll r
def uptoBulkEntries {H : Type} : List (Lit × DataW H) → Nat
  | [] => 0
  | x :: r => uptoBulkEntry x + uptoBulkEntries r
def uptoBulkEntry {H : Type} : Lit × DataW H → Nat
  | (.string bytes, d) => bytes.length + uptoBulk d + 1
  | (_, d) => uptoBulk d + 1
 end
def uptoSmall : (H : Type) → List (DataW H) → Bool := fun _ ds => decide (uptoBulkAll ds ≤ 1048576)
def OpenSpec.upto (s : _root_.Go.ChangeSpec) : _root_.Go.OpenSpec := { _root_.Go.OpenSpec.ofChange s with cond := some uptoSmall }

/-- 'laws.FnExactCost', WHERE WHAT IT READS IS OF BULK AT MOST 1048576: true; the input reads as it did. -/
def fnExactCostUptoRow : OpenClaim := { program := "ytfobegppbaljpaagreat", sum := "756465bc8a0f635943b02fc37095f864754328ef19f2e32aeb0e51bf408a6c0f", func := "loop.example/g00485/laws.FnExactCost", spec := "fnExactCost", unfollowed := true, recurses := true, apart := false, narrowed := true }
def FnExactCostUptoSaid : Prop := fnExactCostUptoRow.holds Tryz.pinned (OpenSpec.upto fnExactCostSpec)

/-- 'laws.FnExactStoreMove', WHERE WHAT IT READS IS OF BULK AT MOST 1048576: true; the input reads as it did. -/
def fnExactStoreMoveUptoRow : OpenClaim := { program := "ytfobegppbaljpaagreat", sum := "756465bc8a0f635943b02fc37095f864754328ef19f2e32aeb0e51bf408a6c0f", func := "loop.example/g00485/laws.FnExactStoreMove", spec := "fnExactStoreMove", inPlace := ["slices.overlaps[loop.example/g00485/impl.Conf]"], unfollowed := true, recurses := true, apart := false, narrowed := true }
def FnExactStoreMoveUptoSaid : Prop := fnExactStoreMoveUptoRow.holds Tryz.pinned (OpenSpec.upto fnExactStoreMoveSpec)

/-- 'laws.FnExactStoreLook', WHERE WHAT IT READS IS OF BULK AT MOST 1048576: true; the input reads as it did. -/
def fnExactStoreLookUptoRow : OpenClaim := { program := "ytfobegppbaljpaagreat", sum := "756465bc8a0f635943b02fc37095f864754328ef19f2e32aeb0e51bf408a6c0f", func := "loop.example/g00485/laws.FnExactStoreLook", spec := "fnExactStoreLook", inPlace := ["slices.overlaps[loop.example/g00485/impl.Conf]", "slices.overlaps[int]"], unfollowed := true, recurses := true, apart := false, narrowed := true }
def FnExactStoreLookUptoSaid : Prop := fnExactStoreLookUptoRow.holds Tryz.pinned (OpenSpec.upto fnExactStoreLookSpec)

/-- 'laws.FnExactRunStep', WHERE WHAT IT READS IS OF BULK AT MOST 1048576: true; the input reads as it did. -/
def fnExactRunStepUptoRow : OpenClaim := { program := "ytfobegppbaljpaagreat", sum := "756465bc8a0f635943b02fc37095f864754328ef19f2e32aeb0e51bf408a6c0f", func := "loop.example/g00485/laws.FnExactRunStep", spec := "fnExactRunStep", unfollowed := true, recurses := true, apart := false, narrowed := true }
def FnExactRunStepUptoSaid : Prop := fnExactRunStepUptoRow.holds Tryz.pinned (OpenSpec.upto fnExactRunStepSpec)

/-- 'laws.FnExactRunSome', WHERE WHAT IT READS IS OF BULK AT MOST 1048576: true; the input reads as it did. -/
def fnExactRunSomeUptoRow : OpenClaim := { program := "ytfobegppbaljpaagreat", sum := "756465bc8a0f635943b02fc37095f864754328ef19f2e32aeb0e51bf408a6c0f", func := "loop.example/g00485/laws.FnExactRunSome", spec := "fnExactRunSome", unfollowed := true, recurses := true, apart := false, narrowed := true }
def FnExactRunSomeUptoSaid : Prop := fnExactRunSomeUptoRow.holds Tryz.pinned (OpenSpec.upto fnExactRunSomeSpec)

/-- 'laws.FnExactHouseNew', WHERE WHAT IT READS IS OF BULK AT MOST 1048576: true; the input reads as it did. -/
def fnExactHouseNewUptoRow : OpenClaim := { program := "ytfobegppbaljpaagreat", sum := "756465bc8a0f635943b02fc37095f864754328ef19f2e32aeb0e51bf408a6c0f", func := "loop.example/g00485/laws.FnExactHouseNew", spec := "fnExactHouseNew", inPlace := ["slices.overlaps[loop.example/g00485/impl.Conf]"], unfollowed := true, recurses := true, apart := false, narrowed := true }
def FnExactHouseNewUptoSaid : Prop := fnExactHouseNewUptoRow.holds Tryz.pinned (OpenSpec.upto fnExactHouseNewSpec)

/-- 'laws.FnExactHouseOk', WHERE WHAT IT READS IS OF BULK AT MOST 1048576: true; the input reads as it did. -/
def fnExactHouseOkUptoRow : OpenClaim := { program := "ytfobegppbaljpaagreat", sum := "756465bc8a0f635943b02fc37095f864754328ef19f2e32aeb0e51bf408a6c0f", func := "loop.example/g00485/laws.FnExactHouseOk", spec := "fnExactHouseOk", inPlace := ["slices.overlaps[loop.example/g00485/impl.Conf]"], unfollowed := true, recurses := true, apart := false, narrowed := true }
def FnExactHouseOkUptoSaid : Prop := fnExactHouseOkUptoRow.holds Tryz.pinned (OpenSpec.upto fnExactHouseOkSpec)

/-- 'laws.FnExactBound', WHERE WHAT IT READS IS OF BULK AT MOST 1048576: true; the input reads as it did. -/
def fnExactBoundUptoRow : OpenClaim := { program := "ytfobegppbaljpaagreat", sum := "756465bc8a0f635943b02fc37095f864754328ef19f2e32aeb0e51bf408a6c0f", func := "loop.example/g00485/laws.FnExactBound", spec := "fnExactBound", inPlace := ["slices.overlaps[loop.example/g00485/impl.Conf]"], unfollowed := true, recurses := true, apart := false, narrowed := true }
def FnExactBoundUptoSaid : Prop := fnExactBoundUptoRow.holds Tryz.pinned (OpenSpec.upto fnExactBoundSpec)

/-- 'laws.FnExactPending', WHERE WHAT IT READS IS OF BULK AT MOST 1048576: true; the input reads as it did. -/
def fnExactPendingUptoRow : OpenClaim := { program := "ytfobegppbaljpaagreat", sum := "756465bc8a0f635943b02fc37095f864754328ef19f2e32aeb0e51bf408a6c0f", func := "loop.example/g00485/laws.FnExactPending", spec := "fnExactPending", inPlace := ["slices.overlaps[loop.example/g00485/impl.Conf]"], unfollowed := true, recurses := true, apart := false, narrowed := true }
def FnExactPendingUptoSaid : Prop := fnExactPendingUptoRow.holds Tryz.pinned (OpenSpec.upto fnExactPendingSpec)

/-- 'laws.FnExactScore', WHERE WHAT IT READS IS OF BULK AT MOST 1048576: true; the input reads as it did. -/
def fnExactScoreUptoRow : OpenClaim := { program := "ytfobegppbaljpaagreat", sum := "756465bc8a0f635943b02fc37095f864754328ef19f2e32aeb0e51bf408a6c0f", func := "loop.example/g00485/laws.FnExactScore", spec := "fnExactScore", inPlace := ["slices.overlaps[loop.example/g00485/impl.Conf]"], unfollowed := true, recurses := true, apart := false, narrowed := true }
def FnExactScoreUptoSaid : Prop := fnExactScoreUptoRow.holds Tryz.pinned (OpenSpec.upto fnExactScoreSpec)

end Rows
end Go.Proofs.YtfobegppbaljpaaGreat
