/-
  No cell of these rows narrows 'for every input' (looked for: loops, veiled, ifaces, maps, wideKeys, modest, calm, conditions, laid).
  DERIVED. THE GIVEN ROWS OF THIS SEAT. 3 by the template 'for every input the law returns true; each argument reads behind the call as it read before'; 0 by the template 'total and deterministic' (their statements: YtfcbminodkjklaaGreatTotals.lean).
  GIVEN WITH THE SEED: the statements are not yours to turn. If you find one false, say at which input.
  Laid BY PROGRAM, IN A SANDBOX (cutbox-rows.mjs): the forced cells as the released guide's own fill.sh prints them over the translation 0a4f6c935d1c13b1… (all of the seat's roots in one cut). By AI agents, Wed Nov 11 2026. No macro, syntax, notation, axiom, sorry.
-/
import Derived.Test.YtfcbminodkjklaaGreatChecked
import GoSem.Claim
import GoSem.ClaimJoined
import GoSem.ClaimMapViews
import Derived.JoinedTies
import Derived.KernelRfl
namespace Go.Proofs.YtfcbminodkjklaaGreat
/- THE CELL 'sum', in the pinned program and in every row, IS THE sha256 OF THE DUMP (.gsa) THAT YtfcbminodkjklaaGreatProg.lean LOADS. Nothing in Lean hashes anything: it is a label: what it is worth is what the hold of that sum in a sandbox is worth. -/
noncomputable def Tryz.pinned : Pinned := { name := "ytfcbminodkjklaagreat", sum := "0a4f6c935d1c13b1b669fa8cad4d622c9c17b2c18410f987bbb1dfd06f86991f", checked := Tryz.checked }
namespace Rows
def none {H : Type} : Left H := { results := [], args := [] }

/-- 'laws.FnExactHouseSame': WHATEVER THE INPUT: true; the input reads as it did. -/
def fnExactHouseSameSpec : ChangeSpec := { name := "fnExactHouseSame", fn := fun _ => fun
  | [d1, d2] => { results := [.lit (.bool true)], args := [d1, d2] }
  | _ => none }
def fnExactHouseSameRow : OpenClaim := { program := "ytfcbminodkjklaagreat", sum := "0a4f6c935d1c13b1b669fa8cad4d622c9c17b2c18410f987bbb1dfd06f86991f", func := "loop.example/g00485/laws.FnExactHouseSame", spec := "fnExactHouseSame", unfollowed := true, recurses := true, apart := false }
def FnExactHouseSameSaid : Prop := fnExactHouseSameRow.holds Tryz.pinned (OpenSpec.ofChange fnExactHouseSameSpec)

/-- ITS FALSE NEIGHBOUR: 'it returns false'. Refute it at one input. -/
def fnExactHouseSameWrong : ChangeSpec := { name := "fnExactHouseSame", fn := fun _ => fun
  | [d1, d2] => { results := [.lit (.bool false)], args := [d1, d2] }
  | _ => none }
def FnExactHouseSameWrongFalsely : Prop := fnExactHouseSameRow.holds Tryz.pinned (OpenSpec.ofChange fnExactHouseSameWrong)

/-- 'laws.FnExactCost': WHATEVER THE INPUT: true; the input reads as it did. -/
def fnExactCostSpec : ChangeSpec := { name := "fnExactCost", fn := fun _ => fun
  | [d1, d2] => { results := [.lit (.bool true)], args := [d1, d2] }
  | _ => none }
def fnExactCostRow : OpenClaim := { program := "ytfcbminodkjklaagreat", sum := "0a4f6c935d1c13b1b669fa8cad4d622c9c17b2c18410f987bbb1dfd06f86991f", func := "loop.example/g00485/laws.FnExactCost", spec := "fnExactCost", unfollowed := true, recurses := true, apart := false }
def FnExactCostSaid : Prop := fnExactCostRow.holds Tryz.pinned (OpenSpec.ofChange fnExactCostSpec)

/-- ITS FALSE NEIGHBOUR: 'it returns false'. Refute it at one input. -/
def fnExactCostWrong : ChangeSpec := { name := "fnExactCost", fn := fun _ => fun
  | [d1, d2] => { results := [.lit (.bool false)], args := [d1, d2] }
  | _ => none }
def FnExactCostWrongFalsely : Prop := fnExactCostRow.holds Tryz.pinned (OpenSpec.ofChange fnExactCostWrong)

/-- 'laws.FnExactStoreMove': WHATEVER THE INPUT: true; the input reads as it did. -/
def fnExactStoreMoveSpec : ChangeSpec := { name := "fnExactStoreMove", fn := fun _ => fun
  | [d1, d2, d3, d4] => { results := [.lit (.bool true)], args := [d1, d2, d3, d4] }
  | _ => none }
def fnExactStoreMoveRow : OpenClaim := { program := "ytfcbminodkjklaagreat", sum := "0a4f6c935d1c13b1b669fa8cad4d622c9c17b2c18410f987bbb1dfd06f86991f", func := "loop.example/g00485/laws.FnExactStoreMove", spec := "fnExactStoreMove", inPlace := ["slices.overlaps[loop.example/g00485/impl.Conf]"], unfollowed := true, recurses := true, apart := false }
def FnExactStoreMoveSaid : Prop := fnExactStoreMoveRow.holds Tryz.pinned (OpenSpec.ofChange fnExactStoreMoveSpec)

/-- ITS FALSE NEIGHBOUR: 'it returns false'. Refute it at one input. -/
def fnExactStoreMoveWrong : ChangeSpec := { name := "fnExactStoreMove", fn := fun _ => fun
  | [d1, d2, d3, d4] => { results := [.lit (.bool false)], args := [d1, d2, d3, d4] }
  | _ => none }
def FnExactStoreMoveWrongFalsely : Prop := fnExactStoreMoveRow.holds Tryz.pinned (OpenSpec.ofChange fnExactStoreMoveWrong)

/- THE SECOND FORM. 'bulk': how many values and letters a reading holds, each counted each time it is reached (what is shared counts as often as it is met; a slice's spare places count too). A statement '..UptoSaid' is the law's where the arguments, and the package variables that the reading takes, are together of bulk at most 1048576: NARROWER than '..Said'. Prove '..Said' where nothing that the law and all that it calls make is longer than what came in: it says more and counts as full. Else prove '..UptoSaid'. A law counts once. -/
mutual
def uptoBulk {H : Type} : DataW H → Nat
  | .lit (.string bytes) => bytes.length + 1
  | .lit _ => 1
  | .nil => 1
  | .ptr d => uptoBulk d + 1
  | .slice elems spare => uptoBulkAll elems + uptoBulkAll spare + 1
  | .agg parts => uptoBulkAll parts + 1
  | .iface _ d => uptoBulk d + 1
  | .map entries => uptoBulkEntries entries + 1
  | .held _ => 1
def uptoBulkAll {H : Type} : List (DataW H) → Nat
  | [] => 0
  | d :: r => uptoBulk d + uptoBulkAll r
def uptoBulkEntries {H : Type} : List (Lit × DataW H) → Nat
  | [] => 0
  | x :: r => uptoBulkEntry x + uptoBulkEntries r
def uptoBulkEntry {H : Type} : Lit × DataW H → Nat
  | (.string bytes, d) => bytes.length + uptoBulk d + 1
  | (_, d) => uptoBulk d + 1
 end
def uptoSmall : (H : Type) → List (DataW H) → Bool := fun _ ds => decide (uptoBulkAll ds ≤ 1048576)
def OpenSpec.upto (s : _root_.Go.ChangeSpec) : _root_.Go.OpenSpec := { _root_.Go.OpenSpec.ofChange s with cond := some uptoSmall }

/-- 'laws.FnExactHouseSame', WHERE WHAT IT READS IS OF BULK AT MOST 1048576: true; the input reads as it did. -/
def fnExactHouseSameUptoRow : OpenClaim := { program := "ytfcbminodkjklaagreat", sum := "0a4f6c935d1c13b1b669fa8cad4d622c9c17b2c18410f987bbb1dfd06f86991f", func := "loop.example/g00485/laws.FnExactHouseSame", spec := "fnExactHouseSame", unfollowed := true, recurses := true, apart := false, narrowed := true }
def FnExactHouseSameUptoSaid : Prop := fnExactHouseSameUptoRow.holds Tryz.pinned (OpenSpec.upto fnExactHouseSameSpec)

/-- 'laws.FnExactCost', WHERE WHAT IT READS IS OF BULK AT MOST 1048576: true; the input reads as it did. -/
def fnExactCostUptoRow : OpenClaim := { program := "ytfcbminodkjklaagreat", sum := "0a4f6c935d1c13b1b669fa8cad4d622c9c17b2c18410f987bbb1dfd06f86991f", func := "loop.example/g00485/laws.FnExactCost", spec := "fnExactCost", unfollowed := true, recurses := true, apart := false, narrowed := true }
def FnExactCostUptoSaid : Prop := fnExactCostUptoRow.holds Tryz.pinned (OpenSpec.upto fnExactCostSpec)

/-- 'laws.FnExactStoreMove', WHERE WHAT IT READS IS OF BULK AT MOST 1048576: true; the input reads as it did. -/
def fnExactStoreMoveUptoRow : OpenClaim := { program := "ytfcbminodkjklaagreat", sum := "0a4f6c935d1c13b1b669fa8cad4d622c9c17b2c18410f987bbb1dfd06f86991f", func := "loop.example/g00485/laws.FnExactStoreMove", spec := "fnExactStoreMove", inPlace := ["slices.overlaps[loop.example/g00485/impl.Conf]"], unfollowed := true, recurses := true, apart := false, narrowed := true }
def FnExactStoreMoveUptoSaid : Prop := fnExactStoreMoveUptoRow.holds Tryz.pinned (OpenSpec.upto fnExactStoreMoveSpec)

end Rows
end Go.Proofs.YtfcbminodkjklaaGreat
