/-
  No cell of these rows narrows 'for every input' (looked for: loops, veiled, ifaces, maps, wideKeys, modest, calm, conditions, laid).
  DERIVED. THE GIVEN ROWS OF THIS SEAT. 7 by the template 'for every input the law returns true; each argument reads behind the call as it read before'; 0 by the template 'total and deterministic' (their statements: YthkjmplgdceajaaTotals.lean).
  GIVEN WITH THE SEED: the statements are not yours to turn. If you find one false, say at which input.
  Laid BY PROGRAM, IN A SANDBOX (cutbox-rows.mjs): the forced cells as the released guide's own fill.sh prints them over the translation a5103a43151a60aa… (all of the seat's roots in one cut). By AI agents, Wed Nov 11 2026. No macro, syntax, notation, axiom, sorry.
-/
import Derived.Test.YthkjmplgdceajaaChecked
import GoSem.Claim
import GoSem.ClaimJoined
import GoSem.ClaimMapViews
import Derived.JoinedTies
import Derived.KernelRfl
namespace Go.Proofs.Ythkjmplgdceajaa
/- THE CELL 'sum', in the pinned program and in every row, IS THE sha256 OF THE DUMP (.gsa) THAT YthkjmplgdceajaaProg.lean LOADS. Nothing in Lean hashes anything: it is a label: what it is worth is what the hold of that sum in a sandbox is worth. -/
noncomputable def Try.pinned : Pinned := { name := "ythkjmplgdceajaa", sum := "a5103a43151a60aa7d2398f3c325d8f9f5949bbf5d65f8d19521b95fd20a7b65", checked := Try.checked }
namespace Rows
def none {H : Type} : Left H := { results := [], args := [] }

/-- 'laws.FnExactCodeText': WHATEVER THE INPUT: true; the input reads as it did. -/
def fnExactCodeTextSpec : ChangeSpec := { name := "fnExactCodeText", fn := fun _ => fun
  | [d] => { results := [.lit (.bool true)], args := [d] }
  | _ => none }
def fnExactCodeTextRow : OpenClaim := { program := "ythkjmplgdceajaa", sum := "a5103a43151a60aa7d2398f3c325d8f9f5949bbf5d65f8d19521b95fd20a7b65", func := "loop.example/g00485/laws.FnExactCodeText", spec := "fnExactCodeText", apart := false }
def FnExactCodeTextSaid : Prop := fnExactCodeTextRow.holds Try.pinned (OpenSpec.ofChange fnExactCodeTextSpec)

/-- ITS FALSE NEIGHBOUR: 'it returns false'. Refute it at one input. -/
def fnExactCodeTextWrong : ChangeSpec := { name := "fnExactCodeText", fn := fun _ => fun
  | [d] => { results := [.lit (.bool false)], args := [d] }
  | _ => none }
def FnExactCodeTextWrongFalsely : Prop := fnExactCodeTextRow.holds Try.pinned (OpenSpec.ofChange fnExactCodeTextWrong)

/-- 'laws.FnExactRepaired': WHATEVER THE INPUT: true; the input reads as it did. -/
def fnExactRepairedSpec : ChangeSpec := { name := "fnExactRepaired", fn := fun _ => fun
  | [d1, d2] => { results := [.lit (.bool true)], args := [d1, d2] }
  | _ => none }
def fnExactRepairedRow : OpenClaim := { program := "ythkjmplgdceajaa", sum := "a5103a43151a60aa7d2398f3c325d8f9f5949bbf5d65f8d19521b95fd20a7b65", func := "loop.example/g00485/laws.FnExactRepaired", spec := "fnExactRepaired", apart := false }
def FnExactRepairedSaid : Prop := fnExactRepairedRow.holds Try.pinned (OpenSpec.ofChange fnExactRepairedSpec)

/-- ITS FALSE NEIGHBOUR: 'it returns false'. Refute it at one input. -/
def fnExactRepairedWrong : ChangeSpec := { name := "fnExactRepaired", fn := fun _ => fun
  | [d1, d2] => { results := [.lit (.bool false)], args := [d1, d2] }
  | _ => none }
def FnExactRepairedWrongFalsely : Prop := fnExactRepairedRow.holds Try.pinned (OpenSpec.ofChange fnExactRepairedWrong)

/-- 'laws.FnExactStoreNew': WHATEVER THE INPUT: true; the input reads as it did. -/
def fnExactStoreNewSpec : ChangeSpec := { name := "fnExactStoreNew", fn := fun _ => fun
  | [d] => { results := [.lit (.bool true)], args := [d] }
  | _ => none }
def fnExactStoreNewRow : OpenClaim := { program := "ythkjmplgdceajaa", sum := "a5103a43151a60aa7d2398f3c325d8f9f5949bbf5d65f8d19521b95fd20a7b65", func := "loop.example/g00485/laws.FnExactStoreNew", spec := "fnExactStoreNew", apart := false }
def FnExactStoreNewSaid : Prop := fnExactStoreNewRow.holds Try.pinned (OpenSpec.ofChange fnExactStoreNewSpec)

/-- ITS FALSE NEIGHBOUR: 'it returns false'. Refute it at one input. -/
def fnExactStoreNewWrong : ChangeSpec := { name := "fnExactStoreNew", fn := fun _ => fun
  | [d] => { results := [.lit (.bool false)], args := [d] }
  | _ => none }
def FnExactStoreNewWrongFalsely : Prop := fnExactStoreNewRow.holds Try.pinned (OpenSpec.ofChange fnExactStoreNewWrong)

/-- 'laws.FnExactSetAlts': WHATEVER THE INPUT: true; the input reads as it did. -/
def fnExactSetAltsSpec : ChangeSpec := { name := "fnExactSetAlts", fn := fun _ => fun
  | [d] => { results := [.lit (.bool true)], args := [d] }
  | _ => none }
def fnExactSetAltsRow : OpenClaim := { program := "ythkjmplgdceajaa", sum := "a5103a43151a60aa7d2398f3c325d8f9f5949bbf5d65f8d19521b95fd20a7b65", func := "loop.example/g00485/laws.FnExactSetAlts", spec := "fnExactSetAlts", inPlace := ["slices.overlaps[int]"], apart := false }
def FnExactSetAltsSaid : Prop := fnExactSetAltsRow.holds Try.pinned (OpenSpec.ofChange fnExactSetAltsSpec)

/-- ITS FALSE NEIGHBOUR: 'it returns false'. Refute it at one input. -/
def fnExactSetAltsWrong : ChangeSpec := { name := "fnExactSetAlts", fn := fun _ => fun
  | [d] => { results := [.lit (.bool false)], args := [d] }
  | _ => none }
def FnExactSetAltsWrongFalsely : Prop := fnExactSetAltsRow.holds Try.pinned (OpenSpec.ofChange fnExactSetAltsWrong)

/-- 'laws.FnExactStoreSame': WHATEVER THE INPUT: true; the input reads as it did. -/
def fnExactStoreSameSpec : ChangeSpec := { name := "fnExactStoreSame", fn := fun _ => fun
  | [d1, d2] => { results := [.lit (.bool true)], args := [d1, d2] }
  | _ => none }
def fnExactStoreSameRow : OpenClaim := { program := "ythkjmplgdceajaa", sum := "a5103a43151a60aa7d2398f3c325d8f9f5949bbf5d65f8d19521b95fd20a7b65", func := "loop.example/g00485/laws.FnExactStoreSame", spec := "fnExactStoreSame", unfollowed := true, recurses := true, apart := false }
def FnExactStoreSameSaid : Prop := fnExactStoreSameRow.holds Try.pinned (OpenSpec.ofChange fnExactStoreSameSpec)

/-- ITS FALSE NEIGHBOUR: 'it returns false'. Refute it at one input. -/
def fnExactStoreSameWrong : ChangeSpec := { name := "fnExactStoreSame", fn := fun _ => fun
  | [d1, d2] => { results := [.lit (.bool false)], args := [d1, d2] }
  | _ => none }
def FnExactStoreSameWrongFalsely : Prop := fnExactStoreSameRow.holds Try.pinned (OpenSpec.ofChange fnExactStoreSameWrong)

/-- 'laws.FnExactTenantOk': WHATEVER THE INPUT: true; the input reads as it did. -/
def fnExactTenantOkSpec : ChangeSpec := { name := "fnExactTenantOk", fn := fun _ => fun
  | [d] => { results := [.lit (.bool true)], args := [d] }
  | _ => none }
def fnExactTenantOkRow : OpenClaim := { program := "ythkjmplgdceajaa", sum := "a5103a43151a60aa7d2398f3c325d8f9f5949bbf5d65f8d19521b95fd20a7b65", func := "loop.example/g00485/laws.FnExactTenantOk", spec := "fnExactTenantOk", apart := false }
def FnExactTenantOkSaid : Prop := fnExactTenantOkRow.holds Try.pinned (OpenSpec.ofChange fnExactTenantOkSpec)

/-- ITS FALSE NEIGHBOUR: 'it returns false'. Refute it at one input. -/
def fnExactTenantOkWrong : ChangeSpec := { name := "fnExactTenantOk", fn := fun _ => fun
  | [d] => { results := [.lit (.bool false)], args := [d] }
  | _ => none }
def FnExactTenantOkWrongFalsely : Prop := fnExactTenantOkRow.holds Try.pinned (OpenSpec.ofChange fnExactTenantOkWrong)

/-- 'laws.FnExactBacklog': WHATEVER THE INPUT: true; the input reads as it did. -/
def fnExactBacklogSpec : ChangeSpec := { name := "fnExactBacklog", fn := fun _ => fun
  | [d] => { results := [.lit (.bool true)], args := [d] }
  | _ => none }
def fnExactBacklogRow : OpenClaim := { program := "ythkjmplgdceajaa", sum := "a5103a43151a60aa7d2398f3c325d8f9f5949bbf5d65f8d19521b95fd20a7b65", func := "loop.example/g00485/laws.FnExactBacklog", spec := "fnExactBacklog", apart := false }
def FnExactBacklogSaid : Prop := fnExactBacklogRow.holds Try.pinned (OpenSpec.ofChange fnExactBacklogSpec)

/-- ITS FALSE NEIGHBOUR: 'it returns false'. Refute it at one input. -/
def fnExactBacklogWrong : ChangeSpec := { name := "fnExactBacklog", fn := fun _ => fun
  | [d] => { results := [.lit (.bool false)], args := [d] }
  | _ => none }
def FnExactBacklogWrongFalsely : Prop := fnExactBacklogRow.holds Try.pinned (OpenSpec.ofChange fnExactBacklogWrong)

/- THE SECOND FORM. 'bulk': how many values and letters a reading holds, each counted each time it is reached (what is shared counts as often as it is met; a slice's spare places count too). A statement '..UptoSaid' is the law's where the arguments, and the package variables that the reading takes, are together of bulk at most 1048576: NARROWER than '..Said'. Prove '..Said' where nothing that the law and all that it calls make is longer than what came in: it says more and counts as full. Else prove '..UptoSaid'. A law counts once. -/
mutual
def uptoBulk {H : Type} : DataW H → Nat
  | .lit (.string bytes) => bytes.length + 1
  | .lit _ => 1
  | .nil => 1
  | .ptr d => uptoBulk d + 1
  | .slice elems spare => uptoBulkAll elems + uptoBulkAll spare + 1
  | .agg parts => uptoBulkAll parts + 1
  | .iface _ d => uptoBulk d + 1
  | .map entries => uptoBulkEntries entries + 1
  | .held _ => 1
def uptoBulkAll {H : Type} : List (DataW H) → Nat
  | [] => 0
  | d :: r => uptoBulk d + uptoBulkAll r
def uptoBulkEntries {H : Type} : List (Lit × DataW H) → Nat
  | [] => 0
  | x :: r => uptoBulkEntry x + uptoBulkEntries r
def uptoBulkEntry {H : Type} : Lit × DataW H → Nat
  | (.string bytes, d) => bytes.length + uptoBulk d + 1
  | (_, d) => uptoBulk d + 1
 end
def uptoSmall : (H : Type) → List (DataW H) → Bool := fun _ ds => decide (uptoBulkAll ds ≤ 1048576)
def OpenSpec.upto (s : _root_.Go.ChangeSpec) : _root_.Go.OpenSpec := { _root_.Go.OpenSpec.ofChange s with cond := some uptoSmall }

/-- 'laws.FnExactCodeText', WHERE WHAT IT READS IS OF BULK AT MOST 1048576: true; the input reads as it did. -/
def fnExactCodeTextUptoRow : OpenClaim := { program := "ythkjmplgdceajaa", sum := "a5103a43151a60aa7d2398f3c325d8f9f5949bbf5d65f8d19521b95fd20a7b65", func := "loop.example/g00485/laws.FnExactCodeText", spec := "fnExactCodeText", apart := false, narrowed := true }
def FnExactCodeTextUptoSaid : Prop := fnExactCodeTextUptoRow.holds Try.pinned (OpenSpec.upto fnExactCodeTextSpec)

/-- 'laws.FnExactRepaired', WHERE WHAT IT READS IS OF BULK AT MOST 1048576: true; the input reads as it did. -/
def fnExactRepairedUptoRow : OpenClaim := { program := "ythkjmplgdceajaa", sum := "a5103a43151a60aa7d2398f3c325d8f9f5949bbf5d65f8d19521b95fd20a7b65", func := "loop.example/g00485/laws.FnExactRepaired", spec := "fnExactRepaired", apart := false, narrowed := true }
def FnExactRepairedUptoSaid : Prop := fnExactRepairedUptoRow.holds Try.pinned (OpenSpec.upto fnExactRepairedSpec)

/-- 'laws.FnExactStoreNew', WHERE WHAT IT READS IS OF BULK AT MOST 1048576: true; the input reads as it did. -/
def fnExactStoreNewUptoRow : OpenClaim := { program := "ythkjmplgdceajaa", sum := "a5103a43151a60aa7d2398f3c325d8f9f5949bbf5d65f8d19521b95fd20a7b65", func := "loop.example/g00485/laws.FnExactStoreNew", spec := "fnExactStoreNew", apart := false, narrowed := true }
def FnExactStoreNewUptoSaid : Prop := fnExactStoreNewUptoRow.holds Try.pinned (OpenSpec.upto fnExactStoreNewSpec)

/-- 'laws.FnExactSetAlts', WHERE WHAT IT READS IS OF BULK AT MOST 1048576: true; the input reads as it did. -/
def fnExactSetAltsUptoRow : OpenClaim := { program := "ythkjmplgdceajaa", sum := "a5103a43151a60aa7d2398f3c325d8f9f5949bbf5d65f8d19521b95fd20a7b65", func := "loop.example/g00485/laws.FnExactSetAlts", spec := "fnExactSetAlts", inPlace := ["slices.overlaps[int]"], apart := false, narrowed := true }
def FnExactSetAltsUptoSaid : Prop := fnExactSetAltsUptoRow.holds Try.pinned (OpenSpec.upto fnExactSetAltsSpec)

/-- 'laws.FnExactStoreSame', WHERE WHAT IT READS IS OF BULK AT MOST 1048576: true; the input reads as it did. -/
def fnExactStoreSameUptoRow : OpenClaim := { program := "ythkjmplgdceajaa", sum := "a5103a43151a60aa7d2398f3c325d8f9f5949bbf5d65f8d19521b95fd20a7b65", func := "loop.example/g00485/laws.FnExactStoreSame", spec := "fnExactStoreSame", unfollowed := true, recurses := true, apart := false, narrowed := true }
def FnExactStoreSameUptoSaid : Prop := fnExactStoreSameUptoRow.holds Try.pinned (OpenSpec.upto fnExactStoreSameSpec)

/-- 'laws.FnExactTenantOk', WHERE WHAT IT READS IS OF BULK AT MOST 1048576: true; the input reads as it did. -/
def fnExactTenantOkUptoRow : OpenClaim := { program := "ythkjmplgdceajaa", sum := "a5103a43151a60aa7d2398f3c325d8f9f5949bbf5d65f8d19521b95fd20a7b65", func := "loop.example/g00485/laws.FnExactTenantOk", spec := "fnExactTenantOk", apart := false, narrowed := true }
def FnExactTenantOkUptoSaid : Prop := fnExactTenantOkUptoRow.holds Try.pinned (OpenSpec.upto fnExactTenantOkSpec)

/-- 'laws.FnExactBacklog', WHERE WHAT IT READS IS OF BULK AT MOST 1048576: true; the input reads as it did. -/
def fnExactBacklogUptoRow : OpenClaim := { program := "ythkjmplgdceajaa", sum := "a5103a43151a60aa7d2398f3c325d8f9f5949bbf5d65f8d19521b95fd20a7b65", func := "loop.example/g00485/laws.FnExactBacklog", spec := "fnExactBacklog", apart := false, narrowed := true }
def FnExactBacklogUptoSaid : Prop := fnExactBacklogUptoRow.holds Try.pinned (OpenSpec.upto fnExactBacklogSpec)

end Rows
end Go.Proofs.Ythkjmplgdceajaa
