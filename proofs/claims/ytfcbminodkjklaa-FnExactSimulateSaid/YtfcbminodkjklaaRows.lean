/-
  No cell of these rows narrows 'for every input' (looked for: loops, veiled, ifaces, maps, wideKeys, modest, calm, conditions, laid).
  DERIVED. THE GIVEN ROWS OF THIS SEAT. 7 by the template 'for every input the law returns true; each argument reads behind the call as it read before'; 0 by the template 'total and deterministic' (their statements: YtfcbminodkjklaaTotals.lean).
  GIVEN WITH THE SEED: the statements are not yours to turn. If you find one false, say at which input.
  Laid BY PROGRAM, IN A SANDBOX (cutbox-rows.mjs): the forced cells as the released guide's own fill.sh prints them over the translation deb4cce18abbcf25… (all of the seat's roots in one cut). By AI agents, Wed Nov 11 2026. No macro, syntax, notation, axiom, sorry.
-/
import Derived.Test.YtfcbminodkjklaaChecked
import GoSem.Claim
import GoSem.ClaimJoined
import GoSem.ClaimMapViews
import Derived.JoinedTies
import Derived.KernelRfl
namespace Go.Proofs.Ytfcbminodkjklaa
/- THE CELL 'sum', in the pinned program and in every row, IS THE sha256 OF THE DUMP (.gsa) THAT YtfcbminodkjklaaProg.lean LOADS. Nothing in Lean hashes anything: it is a label: what it is worth is what the hold of that sum in a sandbox is worth. -/
noncomputable def Try.pinned : Pinned := { name := "ytfcbminodkjklaa", sum := "deb4cce18abbcf2503a7d9c03d980b9420632669389a91e2088c0b9acad934a4", checked := Try.checked }
namespace Rows
def none {H : Type} : Left H := { results := [], args := [] }

/-- 'laws.FnExactTenantNew': WHATEVER THE INPUT: true; the input reads as it did. -/
def fnExactTenantNewSpec : ChangeSpec := { name := "fnExactTenantNew", fn := fun _ => fun
  | [d1, d2, d3] => { results := [.lit (.bool true)], args := [d1, d2, d3] }
  | _ => none }
def fnExactTenantNewRow : OpenClaim := { program := "ytfcbminodkjklaa", sum := "deb4cce18abbcf2503a7d9c03d980b9420632669389a91e2088c0b9acad934a4", func := "loop.example/g00485/laws.FnExactTenantNew", spec := "fnExactTenantNew", apart := false }
def FnExactTenantNewSaid : Prop := fnExactTenantNewRow.holds Try.pinned (OpenSpec.ofChange fnExactTenantNewSpec)

/-- ITS FALSE NEIGHBOUR: 'it returns false'. Refute it at one input. -/
def fnExactTenantNewWrong : ChangeSpec := { name := "fnExactTenantNew", fn := fun _ => fun
  | [d1, d2, d3] => { results := [.lit (.bool false)], args := [d1, d2, d3] }
  | _ => none }
def FnExactTenantNewWrongFalsely : Prop := fnExactTenantNewRow.holds Try.pinned (OpenSpec.ofChange fnExactTenantNewWrong)

/-- 'laws.FnExactSetStart': WHATEVER THE INPUT: true; the input reads as it did. -/
def fnExactSetStartSpec : ChangeSpec := { name := "fnExactSetStart", fn := fun _ => fun
  | [d1, d2, d3] => { results := [.lit (.bool true)], args := [d1, d2, d3] }
  | _ => none }
def fnExactSetStartRow : OpenClaim := { program := "ytfcbminodkjklaa", sum := "deb4cce18abbcf2503a7d9c03d980b9420632669389a91e2088c0b9acad934a4", func := "loop.example/g00485/laws.FnExactSetStart", spec := "fnExactSetStart", inPlace := ["slices.overlaps[loop.example/g00485/impl.Conf]"], unfollowed := true, recurses := true, apart := false }
def FnExactSetStartSaid : Prop := fnExactSetStartRow.holds Try.pinned (OpenSpec.ofChange fnExactSetStartSpec)

/-- ITS FALSE NEIGHBOUR: 'it returns false'. Refute it at one input. -/
def fnExactSetStartWrong : ChangeSpec := { name := "fnExactSetStart", fn := fun _ => fun
  | [d1, d2, d3] => { results := [.lit (.bool false)], args := [d1, d2, d3] }
  | _ => none }
def FnExactSetStartWrongFalsely : Prop := fnExactSetStartRow.holds Try.pinned (OpenSpec.ofChange fnExactSetStartWrong)

/-- 'laws.FnExactTold': WHATEVER THE INPUT: true; the input reads as it did. -/
def fnExactToldSpec : ChangeSpec := { name := "fnExactTold", fn := fun _ => fun
  | [d] => { results := [.lit (.bool true)], args := [d] }
  | _ => none }
def fnExactToldRow : OpenClaim := { program := "ytfcbminodkjklaa", sum := "deb4cce18abbcf2503a7d9c03d980b9420632669389a91e2088c0b9acad934a4", func := "loop.example/g00485/laws.FnExactTold", spec := "fnExactTold", apart := false }
def FnExactToldSaid : Prop := fnExactToldRow.holds Try.pinned (OpenSpec.ofChange fnExactToldSpec)

/-- ITS FALSE NEIGHBOUR: 'it returns false'. Refute it at one input. -/
def fnExactToldWrong : ChangeSpec := { name := "fnExactTold", fn := fun _ => fun
  | [d] => { results := [.lit (.bool false)], args := [d] }
  | _ => none }
def FnExactToldWrongFalsely : Prop := fnExactToldRow.holds Try.pinned (OpenSpec.ofChange fnExactToldWrong)

/-- 'laws.FnExactSetMove': WHATEVER THE INPUT: true; the input reads as it did. -/
def fnExactSetMoveSpec : ChangeSpec := { name := "fnExactSetMove", fn := fun _ => fun
  | [d1, d2, d3] => { results := [.lit (.bool true)], args := [d1, d2, d3] }
  | _ => none }
def fnExactSetMoveRow : OpenClaim := { program := "ytfcbminodkjklaa", sum := "deb4cce18abbcf2503a7d9c03d980b9420632669389a91e2088c0b9acad934a4", func := "loop.example/g00485/laws.FnExactSetMove", spec := "fnExactSetMove", inPlace := ["slices.overlaps[loop.example/g00485/impl.Conf]"], unfollowed := true, recurses := true, apart := false }
def FnExactSetMoveSaid : Prop := fnExactSetMoveRow.holds Try.pinned (OpenSpec.ofChange fnExactSetMoveSpec)

/-- ITS FALSE NEIGHBOUR: 'it returns false'. Refute it at one input. -/
def fnExactSetMoveWrong : ChangeSpec := { name := "fnExactSetMove", fn := fun _ => fun
  | [d1, d2, d3] => { results := [.lit (.bool false)], args := [d1, d2, d3] }
  | _ => none }
def FnExactSetMoveWrongFalsely : Prop := fnExactSetMoveRow.holds Try.pinned (OpenSpec.ofChange fnExactSetMoveWrong)

/-- 'laws.FnExactSimulate': WHATEVER THE INPUT: true; the input reads as it did. -/
def fnExactSimulateSpec : ChangeSpec := { name := "fnExactSimulate", fn := fun _ => fun
  | [d1, d2, d3, d4, d5] => { results := [.lit (.bool true)], args := [d1, d2, d3, d4, d5] }
  | _ => none }
def fnExactSimulateRow : OpenClaim := { program := "ytfcbminodkjklaa", sum := "deb4cce18abbcf2503a7d9c03d980b9420632669389a91e2088c0b9acad934a4", func := "loop.example/g00485/laws.FnExactSimulate", spec := "fnExactSimulate", inPlace := ["slices.overlaps[loop.example/g00485/impl.Conf]", "slices.overlaps[int]"], unfollowed := true, recurses := true, apart := false }
def FnExactSimulateSaid : Prop := fnExactSimulateRow.holds Try.pinned (OpenSpec.ofChange fnExactSimulateSpec)

/-- ITS FALSE NEIGHBOUR: 'it returns false'. Refute it at one input. -/
def fnExactSimulateWrong : ChangeSpec := { name := "fnExactSimulate", fn := fun _ => fun
  | [d1, d2, d3, d4, d5] => { results := [.lit (.bool false)], args := [d1, d2, d3, d4, d5] }
  | _ => none }
def FnExactSimulateWrongFalsely : Prop := fnExactSimulateRow.holds Try.pinned (OpenSpec.ofChange fnExactSimulateWrong)

/-- 'laws.FnExactStoreOk': WHATEVER THE INPUT: true; the input reads as it did. -/
def fnExactStoreOkSpec : ChangeSpec := { name := "fnExactStoreOk", fn := fun _ => fun
  | [d1, d2] => { results := [.lit (.bool true)], args := [d1, d2] }
  | _ => none }
def fnExactStoreOkRow : OpenClaim := { program := "ytfcbminodkjklaa", sum := "deb4cce18abbcf2503a7d9c03d980b9420632669389a91e2088c0b9acad934a4", func := "loop.example/g00485/laws.FnExactStoreOk", spec := "fnExactStoreOk", inPlace := ["slices.overlaps[loop.example/g00485/impl.Conf]"], unfollowed := true, recurses := true, apart := false }
def FnExactStoreOkSaid : Prop := fnExactStoreOkRow.holds Try.pinned (OpenSpec.ofChange fnExactStoreOkSpec)

/-- ITS FALSE NEIGHBOUR: 'it returns false'. Refute it at one input. -/
def fnExactStoreOkWrong : ChangeSpec := { name := "fnExactStoreOk", fn := fun _ => fun
  | [d1, d2] => { results := [.lit (.bool false)], args := [d1, d2] }
  | _ => none }
def FnExactStoreOkWrongFalsely : Prop := fnExactStoreOkRow.holds Try.pinned (OpenSpec.ofChange fnExactStoreOkWrong)

/-- 'laws.FnExactFinish': WHATEVER THE INPUT: true; the input reads as it did. -/
def fnExactFinishSpec : ChangeSpec := { name := "fnExactFinish", fn := fun _ => fun
  | [d1, d2, d3] => { results := [.lit (.bool true)], args := [d1, d2, d3] }
  | _ => none }
def fnExactFinishRow : OpenClaim := { program := "ytfcbminodkjklaa", sum := "deb4cce18abbcf2503a7d9c03d980b9420632669389a91e2088c0b9acad934a4", func := "loop.example/g00485/laws.FnExactFinish", spec := "fnExactFinish", inPlace := ["slices.overlaps[loop.example/g00485/impl.Outcome]"], apart := false }
def FnExactFinishSaid : Prop := fnExactFinishRow.holds Try.pinned (OpenSpec.ofChange fnExactFinishSpec)

/-- ITS FALSE NEIGHBOUR: 'it returns false'. Refute it at one input. -/
def fnExactFinishWrong : ChangeSpec := { name := "fnExactFinish", fn := fun _ => fun
  | [d1, d2, d3] => { results := [.lit (.bool false)], args := [d1, d2, d3] }
  | _ => none }
def FnExactFinishWrongFalsely : Prop := fnExactFinishRow.holds Try.pinned (OpenSpec.ofChange fnExactFinishWrong)

/- THE SECOND FORM. 'bulk': how many values and letters a reading holds, each counted each time it is reached (what is shared counts as often as it is met; a slice's spare places count too). A statement '..UptoSaid' is the law's where the arguments, and the package variables that the reading takes, are together of bulk at most 1048576: NARROWER than '..Said'. Prove '..Said' where nothing that the law and all that it calls make is longer than what came in: it says more and counts as full. Else prove '..UptoSaid'. A law counts once. -/
mutual
def uptoBulk {H : Type} : DataW H → Nat
  | .lit (.string bytes) => bytes.length + 1
  | .lit _ => 1
  | .nil => 1
  | .ptr d => uptoBulk d + 1
  | .slice elems spare => uptoBulkAll elems + uptoBulkAll spare + 1
  | .agg parts => uptoBulkAll parts + 1
  | .iface _ d => uptoBulk d + 1
  | .map entries => uptoBulkEntries entries + 1
  | .held _ => 1
def uptoBulkAll {H : Type} : List (DataW H) → Nat
  | [] => 0
  | d :: r => uptoBulk d + uptoBulkAll r
def uptoBulkEntries {H : Type} : List (Lit × DataW H) → Nat
  | [] => 0
  | x :: r => uptoBulkEntry x + uptoBulkEntries r
def uptoBulkEntry {H : Type} : Lit × DataW H → Nat
  | (.string bytes, d) => bytes.length + uptoBulk d + 1
  | (_, d) => uptoBulk d + 1
 end
def uptoSmall : (H : Type) → List (DataW H) → Bool := fun _ ds => decide (uptoBulkAll ds ≤ 1048576)
def OpenSpec.upto (s : _root_.Go.ChangeSpec) : _root_.Go.OpenSpec := { _root_.Go.OpenSpec.ofChange s with cond := some uptoSmall }

/-- 'laws.FnExactTenantNew', WHERE WHAT IT READS IS OF BULK AT MOST 1048576: true; the input reads as it did. -/
def fnExactTenantNewUptoRow : OpenClaim := { program := "ytfcbminodkjklaa", sum := "deb4cce18abbcf2503a7d9c03d980b9420632669389a91e2088c0b9acad934a4", func := "loop.example/g00485/laws.FnExactTenantNew", spec := "fnExactTenantNew", apart := false, narrowed := true }
def FnExactTenantNewUptoSaid : Prop := fnExactTenantNewUptoRow.holds Try.pinned (OpenSpec.upto fnExactTenantNewSpec)

/-- 'laws.FnExactSetStart', WHERE WHAT IT READS IS OF BULK AT MOST 1048576: true; the input reads as it did. -/
def fnExactSetStartUptoRow : OpenClaim := { program := "ytfcbminodkjklaa", sum := "deb4cce18abbcf2503a7d9c03d980b9420632669389a91e2088c0b9acad934a4", func := "loop.example/g00485/laws.FnExactSetStart", spec := "fnExactSetStart", inPlace := ["slices.overlaps[loop.example/g00485/impl.Conf]"], unfollowed := true, recurses := true, apart := false, narrowed := true }
def FnExactSetStartUptoSaid : Prop := fnExactSetStartUptoRow.holds Try.pinned (OpenSpec.upto fnExactSetStartSpec)

/-- 'laws.FnExactTold', WHERE WHAT IT READS IS OF BULK AT MOST 1048576: true; the input reads as it did. -/
def fnExactToldUptoRow : OpenClaim := { program := "ytfcbminodkjklaa", sum := "deb4cce18abbcf2503a7d9c03d980b9420632669389a91e2088c0b9acad934a4", func := "loop.example/g00485/laws.FnExactTold", spec := "fnExactTold", apart := false, narrowed := true }
def FnExactToldUptoSaid : Prop := fnExactToldUptoRow.holds Try.pinned (OpenSpec.upto fnExactToldSpec)

/-- 'laws.FnExactSetMove', WHERE WHAT IT READS IS OF BULK AT MOST 1048576: true; the input reads as it did. -/
def fnExactSetMoveUptoRow : OpenClaim := { program := "ytfcbminodkjklaa", sum := "deb4cce18abbcf2503a7d9c03d980b9420632669389a91e2088c0b9acad934a4", func := "loop.example/g00485/laws.FnExactSetMove", spec := "fnExactSetMove", inPlace := ["slices.overlaps[loop.example/g00485/impl.Conf]"], unfollowed := true, recurses := true, apart := false, narrowed := true }
def FnExactSetMoveUptoSaid : Prop := fnExactSetMoveUptoRow.holds Try.pinned (OpenSpec.upto fnExactSetMoveSpec)

/-- 'laws.FnExactSimulate', WHERE WHAT IT READS IS OF BULK AT MOST 1048576: true; the input reads as it did. -/
def fnExactSimulateUptoRow : OpenClaim := { program := "ytfcbminodkjklaa", sum := "deb4cce18abbcf2503a7d9c03d980b9420632669389a91e2088c0b9acad934a4", func := "loop.example/g00485/laws.FnExactSimulate", spec := "fnExactSimulate", inPlace := ["slices.overlaps[loop.example/g00485/impl.Conf]", "slices.overlaps[int]"], unfollowed := true, recurses := true, apart := false, narrowed := true }
def FnExactSimulateUptoSaid : Prop := fnExactSimulateUptoRow.holds Try.pinned (OpenSpec.upto fnExactSimulateSpec)

/-- 'laws.FnExactStoreOk', WHERE WHAT IT READS IS OF BULK AT MOST 1048576: true; the input reads as it did. -/
def fnExactStoreOkUptoRow : OpenClaim := { program := "ytfcbminodkjklaa", sum := "deb4cce18abbcf2503a7d9c03d980b9420632669389a91e2088c0b9acad934a4", func := "loop.example/g00485/laws.FnExactStoreOk", spec := "fnExactStoreOk", inPlace := ["slices.overlaps[loop.example/g00485/impl.Conf]"], unfollowed := true, recurses := true, apart := false, narrowed := true }
def FnExactStoreOkUptoSaid : Prop := fnExactStoreOkUptoRow.holds Try.pinned (OpenSpec.upto fnExactStoreOkSpec)

/-- 'laws.FnExactFinish', WHERE WHAT IT READS IS OF BULK AT MOST 1048576: true; the input reads as it did. -/
def fnExactFinishUptoRow : OpenClaim := { program := "ytfcbminodkjklaa", sum := "deb4cce18abbcf2503a7d9c03d980b9420632669389a91e2088c0b9acad934a4", func := "loop.example/g00485/laws.FnExactFinish", spec := "fnExactFinish", inPlace := ["slices.overlaps[loop.example/g00485/impl.Outcome]"], apart := false, narrowed := true }
def FnExactFinishUptoSaid : Prop := fnExactFinishUptoRow.holds Try.pinned (OpenSpec.upto fnExactFinishSpec)

end Rows
end Go.Proofs.Ytfcbminodkjklaa
