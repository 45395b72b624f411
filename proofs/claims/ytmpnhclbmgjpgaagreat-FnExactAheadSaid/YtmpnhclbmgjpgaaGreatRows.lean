/-
  No cell of these rows narrows 'for every input' (looked for: loops, veiled, ifaces, maps, wideKeys, modest, calm, conditions, laid).
  DERIVED. THE GIVEN ROWS OF THIS SEAT. 6 by the template 'for every input the law returns true; each argument reads behind the call as it read before'; 0 by the template 'total and deterministic' (their statements: YtmpnhclbmgjpgaaGreatTotals.lean).
  GIVEN WITH THE SEED: the statements are not yours to turn. If you find one false, say at which input.
  Laid BY PROGRAM, IN A SANDBOX (cutbox-rows.mjs): the forced cells as the released guide's own fill.sh prints them over the translation 4840d3e57350ee3a… (all of the seat's roots in one cut). By AI agents, Wed Nov 11 2026. No macro, syntax, notation, axiom, sorry.
-/
import Derived.Test.YtmpnhclbmgjpgaaGreatChecked
import GoSem.Claim
import GoSem.ClaimJoined
import GoSem.ClaimMapViews
import Derived.JoinedTies
import Derived.KernelRfl
namespace Go.Proofs.YtmpnhclbmgjpgaaGreat
/- THE CELL 'sum', in the pinned program and in every row, IS THE sha256 OF THE DUMP (.gsa) THAT YtmpnhclbmgjpgaaGreatProg.lean LOADS. Nothing in Lean hashes anything: it is a label: what it is worth is what the hold of that sum in a sandbox is worth. -/
noncomputable def Tryz.pinned : Pinned := { name := "ytmpnhclbmgjpgaagreat", sum := "4840d3e57350ee3a710649f41b719cced156266a483ee8474c981eaf01665fe1", checked := Tryz.checked }
namespace Rows
def none {H : Type} : Left H := { results := [], args := [] }

/-- 'laws.FnExactAhead': WHATEVER THE INPUT: true; the input reads as it did. -/
def fnExactAheadSpec : ChangeSpec := { name := "fnExactAhead", fn := fun _ => fun
  | [d1, d2, d3] => { results := [.lit (.bool true)], args := [d1, d2, d3] }
  | _ => none }
def fnExactAheadRow : OpenClaim := { program := "ytmpnhclbmgjpgaagreat", sum := "4840d3e57350ee3a710649f41b719cced156266a483ee8474c981eaf01665fe1", func := "loop.example/g00485/laws.FnExactAhead", spec := "fnExactAhead", inPlace := ["slices.overlaps[loop.example/g00485/impl.Conf]"], unfollowed := true, recurses := true, apart := false }
def FnExactAheadSaid : Prop := fnExactAheadRow.holds Tryz.pinned (OpenSpec.ofChange fnExactAheadSpec)

/-- ITS FALSE NEIGHBOUR: 'it returns false'. Refute it at one input. -/
def fnExactAheadWrong : ChangeSpec := { name := "fnExactAhead", fn := fun _ => fun
  | [d1, d2, d3] => { results := [.lit (.bool false)], args := [d1, d2, d3] }
  | _ => none }
def FnExactAheadWrongFalsely : Prop := fnExactAheadRow.holds Tryz.pinned (OpenSpec.ofChange fnExactAheadWrong)

/-- 'laws.FnTold': WHATEVER THE INPUT: true; the input reads as it did. -/
def fnToldSpec : ChangeSpec := { name := "fnTold", fn := fun _ => fun
  | [d] => { results := [.lit (.bool true)], args := [d] }
  | _ => none }
def fnToldRow : OpenClaim := { program := "ytmpnhclbmgjpgaagreat", sum := "4840d3e57350ee3a710649f41b719cced156266a483ee8474c981eaf01665fe1", func := "loop.example/g00485/laws.FnTold", spec := "fnTold", recurses := true, apart := false }
def FnToldSaid : Prop := fnToldRow.holds Tryz.pinned (OpenSpec.ofChange fnToldSpec)

/-- ITS FALSE NEIGHBOUR: 'it returns false'. Refute it at one input. -/
def fnToldWrong : ChangeSpec := { name := "fnTold", fn := fun _ => fun
  | [d] => { results := [.lit (.bool false)], args := [d] }
  | _ => none }
def FnToldWrongFalsely : Prop := fnToldRow.holds Tryz.pinned (OpenSpec.ofChange fnToldWrong)

/-- 'laws.FnFinished': WHATEVER THE INPUT: true; the input reads as it did. -/
def fnFinishedSpec : ChangeSpec := { name := "fnFinished", fn := fun _ => fun
  | [d] => { results := [.lit (.bool true)], args := [d] }
  | _ => none }
def fnFinishedRow : OpenClaim := { program := "ytmpnhclbmgjpgaagreat", sum := "4840d3e57350ee3a710649f41b719cced156266a483ee8474c981eaf01665fe1", func := "loop.example/g00485/laws.FnFinished", spec := "fnFinished", inPlace := ["slices.overlaps[loop.example/g00485/impl.Outcome]"], recurses := true, apart := false }
def FnFinishedSaid : Prop := fnFinishedRow.holds Tryz.pinned (OpenSpec.ofChange fnFinishedSpec)

/-- ITS FALSE NEIGHBOUR: 'it returns false'. Refute it at one input. -/
def fnFinishedWrong : ChangeSpec := { name := "fnFinished", fn := fun _ => fun
  | [d] => { results := [.lit (.bool false)], args := [d] }
  | _ => none }
def FnFinishedWrongFalsely : Prop := fnFinishedRow.holds Tryz.pinned (OpenSpec.ofChange fnFinishedWrong)

/-- 'laws.FnMoves': WHATEVER THE INPUT: true; the input reads as it did. -/
def fnMovesSpec : ChangeSpec := { name := "fnMoves", fn := fun _ => fun
  | [d] => { results := [.lit (.bool true)], args := [d] }
  | _ => none }
def fnMovesRow : OpenClaim := { program := "ytmpnhclbmgjpgaagreat", sum := "4840d3e57350ee3a710649f41b719cced156266a483ee8474c981eaf01665fe1", func := "loop.example/g00485/laws.FnMoves", spec := "fnMoves", inPlace := ["slices.overlaps[loop.example/g00485/impl.Conf]", "slices.overlaps[int]"], unfollowed := true, recurses := true, apart := false }
def FnMovesSaid : Prop := fnMovesRow.holds Tryz.pinned (OpenSpec.ofChange fnMovesSpec)

/-- ITS FALSE NEIGHBOUR: 'it returns false'. Refute it at one input. -/
def fnMovesWrong : ChangeSpec := { name := "fnMoves", fn := fun _ => fun
  | [d] => { results := [.lit (.bool false)], args := [d] }
  | _ => none }
def FnMovesWrongFalsely : Prop := fnMovesRow.holds Tryz.pinned (OpenSpec.ofChange fnMovesWrong)

/-- 'laws.FnStarted': WHATEVER THE INPUT: true; the input reads as it did. -/
def fnStartedSpec : ChangeSpec := { name := "fnStarted", fn := fun _ => fun
  | [d] => { results := [.lit (.bool true)], args := [d] }
  | _ => none }
def fnStartedRow : OpenClaim := { program := "ytmpnhclbmgjpgaagreat", sum := "4840d3e57350ee3a710649f41b719cced156266a483ee8474c981eaf01665fe1", func := "loop.example/g00485/laws.FnStarted", spec := "fnStarted", inPlace := ["slices.overlaps[loop.example/g00485/impl.Conf]", "slices.overlaps[int]"], unfollowed := true, recurses := true, apart := false }
def FnStartedSaid : Prop := fnStartedRow.holds Tryz.pinned (OpenSpec.ofChange fnStartedSpec)

/-- ITS FALSE NEIGHBOUR: 'it returns false'. Refute it at one input. -/
def fnStartedWrong : ChangeSpec := { name := "fnStarted", fn := fun _ => fun
  | [d] => { results := [.lit (.bool false)], args := [d] }
  | _ => none }
def FnStartedWrongFalsely : Prop := fnStartedRow.holds Tryz.pinned (OpenSpec.ofChange fnStartedWrong)

/-- 'laws.FnSimulated': WHATEVER THE INPUT: true; the input reads as it did. -/
def fnSimulatedSpec : ChangeSpec := { name := "fnSimulated", fn := fun _ => fun
  | [d] => { results := [.lit (.bool true)], args := [d] }
  | _ => none }
def fnSimulatedRow : OpenClaim := { program := "ytmpnhclbmgjpgaagreat", sum := "4840d3e57350ee3a710649f41b719cced156266a483ee8474c981eaf01665fe1", func := "loop.example/g00485/laws.FnSimulated", spec := "fnSimulated", inPlace := ["slices.overlaps[loop.example/g00485/impl.Conf]", "slices.overlaps[int]"], unfollowed := true, recurses := true, apart := false }
def FnSimulatedSaid : Prop := fnSimulatedRow.holds Tryz.pinned (OpenSpec.ofChange fnSimulatedSpec)

/-- ITS FALSE NEIGHBOUR: 'it returns false'. Refute it at one input. -/
def fnSimulatedWrong : ChangeSpec := { name := "fnSimulated", fn := fun _ => fun
  | [d] => { results := [.lit (.bool false)], args := [d] }
  | _ => none }
def FnSimulatedWrongFalsely : Prop := fnSimulatedRow.holds Tryz.pinned (OpenSpec.ofChange fnSimulatedWrong)

/- THE SECOND FORM. 'bulk': how many values and letters a reading holds, each counted each time it is reached (what is shared counts as often as it is met; a slice's spare places count too). A statement '..UptoSaid' is the law's where the arguments, and the package variables that the reading takes, are together of bulk at most 1048576: NARROWER than '..Said'. Prove '..Said' where nothing that the law and all that it calls make is longer than what came in: it says more and counts as full. Else prove '..UptoSaid'. A law counts once. -/
mutual
def uptoBulk {H : Type} : DataW H → Nat
  | .lit (.string bytes) => bytes.length + 1
  | .lit _ => 1
  | .nil => 1
  | .ptr d => uptoBulk d + 1
  | .slice elems spare => uptoBulkAll elems + uptoBulkAll spare + 1
  | .agg parts => uptoBulkAll parts + 1
  | .iface _ d => uptoBulk d + 1
  | .map entries => uptoBulkEntries entries + 1
  | .held _ => 1
def uptoBulkAll {H : Type} : List (DataW H) → Nat
  | [] => 0
  | d :: r => uptoBulk d + uptoBulkAll r
def uptoBulkEntries {H : Type} : List (Lit × DataW H) → Nat
  | [] => 0
  | x :: r => uptoBulkEntry x + uptoBulkEntries r
def uptoBulkEntry {H : Type} : Lit × DataW H → Nat
  | (.string bytes, d) => bytes.length + uptoBulk d + 1
  | (_, d) => uptoBulk d + 1
 end
def uptoSmall : (H : Type) → List (DataW H) → Bool := fun _ ds => decide (uptoBulkAll ds ≤ 1048576)
def OpenSpec.upto (s : _root_.Go.ChangeSpec) : _root_.Go.OpenSpec := { _root_.Go.OpenSpec.ofChange s with cond := some uptoSmall }

/-- 'laws.FnExactAhead', WHERE WHAT IT READS IS OF BULK AT MOST 1048576: true; the input reads as it did. -/
def fnExactAheadUptoRow : OpenClaim := { program := "ytmpnhclbmgjpgaagreat", sum := "4840d3e57350ee3a710649f41b719cced156266a483ee8474c981eaf01665fe1", func := "loop.example/g00485/laws.FnExactAhead", spec := "fnExactAhead", inPlace := ["slices.overlaps[loop.example/g00485/impl.Conf]"], unfollowed := true, recurses := true, apart := false, narrowed := true }
def FnExactAheadUptoSaid : Prop := fnExactAheadUptoRow.holds Tryz.pinned (OpenSpec.upto fnExactAheadSpec)

/-- 'laws.FnTold', WHERE WHAT IT READS IS OF BULK AT MOST 1048576: true; the input reads as it did. -/
def fnToldUptoRow : OpenClaim := { program := "ytmpnhclbmgjpgaagreat", sum := "4840d3e57350ee3a710649f41b719cced156266a483ee8474c981eaf01665fe1", func := "loop.example/g00485/laws.FnTold", spec := "fnTold", recurses := true, apart := false, narrowed := true }
def FnToldUptoSaid : Prop := fnToldUptoRow.holds Tryz.pinned (OpenSpec.upto fnToldSpec)

/-- 'laws.FnFinished', WHERE WHAT IT READS IS OF BULK AT MOST 1048576: true; the input reads as it did. -/
def fnFinishedUptoRow : OpenClaim := { program := "ytmpnhclbmgjpgaagreat", sum := "4840d3e57350ee3a710649f41b719cced156266a483ee8474c981eaf01665fe1", func := "loop.example/g00485/laws.FnFinished", spec := "fnFinished", inPlace := ["slices.overlaps[loop.example/g00485/impl.Outcome]"], recurses := true, apart := false, narrowed := true }
def FnFinishedUptoSaid : Prop := fnFinishedUptoRow.holds Tryz.pinned (OpenSpec.upto fnFinishedSpec)

/-- 'laws.FnMoves', WHERE WHAT IT READS IS OF BULK AT MOST 1048576: true; the input reads as it did. -/
def fnMovesUptoRow : OpenClaim := { program := "ytmpnhclbmgjpgaagreat", sum := "4840d3e57350ee3a710649f41b719cced156266a483ee8474c981eaf01665fe1", func := "loop.example/g00485/laws.FnMoves", spec := "fnMoves", inPlace := ["slices.overlaps[loop.example/g00485/impl.Conf]", "slices.overlaps[int]"], unfollowed := true, recurses := true, apart := false, narrowed := true }
def FnMovesUptoSaid : Prop := fnMovesUptoRow.holds Tryz.pinned (OpenSpec.upto fnMovesSpec)

/-- 'laws.FnStarted', WHERE WHAT IT READS IS OF BULK AT MOST 1048576: true; the input reads as it did. -/
def fnStartedUptoRow : OpenClaim := { program := "ytmpnhclbmgjpgaagreat", sum := "4840d3e57350ee3a710649f41b719cced156266a483ee8474c981eaf01665fe1", func := "loop.example/g00485/laws.FnStarted", spec := "fnStarted", inPlace := ["slices.overlaps[loop.example/g00485/impl.Conf]", "slices.overlaps[int]"], unfollowed := true, recurses := true, apart := false, narrowed := true }
def FnStartedUptoSaid : Prop := fnStartedUptoRow.holds Tryz.pinned (OpenSpec.upto fnStartedSpec)

/-- 'laws.FnSimulated', WHERE WHAT IT READS IS OF BULK AT MOST 1048576: true; the input reads as it did. -/
def fnSimulatedUptoRow : OpenClaim := { program := "ytmpnhclbmgjpgaagreat", sum := "4840d3e57350ee3a710649f41b719cced156266a483ee8474c981eaf01665fe1", func := "loop.example/g00485/laws.FnSimulated", spec := "fnSimulated", inPlace := ["slices.overlaps[loop.example/g00485/impl.Conf]", "slices.overlaps[int]"], unfollowed := true, recurses := true, apart := false, narrowed := true }
def FnSimulatedUptoSaid : Prop := fnSimulatedUptoRow.holds Tryz.pinned (OpenSpec.upto fnSimulatedSpec)

end Rows
end Go.Proofs.YtmpnhclbmgjpgaaGreat
