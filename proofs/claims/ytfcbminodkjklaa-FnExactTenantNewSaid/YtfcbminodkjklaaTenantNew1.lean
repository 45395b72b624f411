/- Text 1 of 2 for FnExactTenantNew: codes of the functions that it reaches and their contracts over trees. No condition. -/
import Derived.Test.YtfcbminodkjklaaAm5
import Derived.Test.YtfcbminodkjklaaProg
set_option linter.unusedVariables false
set_option linter.unusedSimpArgs false
namespace Go.Am
open Go.Proofs
noncomputable def PT : List (Nat × TI) := mkT Try.prog (List.range 267)
noncomputable def PF : List Nat := mkF Try.prog (List.range 238)
def PA : An := ⟨[], false, true, [(13, 0), (23, 0), (24, 0), (25, 0), (32, 0), (50, 0), (56, 1), (62, 0), (91, 0), (98, 0), (99, 0), (100, 0), (118, 0), (136, 0), (140, 0), (154, 0)], false, [(70, 1), (139, 1), (162, 1), (168, 3), (189, 3), (198, 3)]⟩
def PB : An := ⟨[], false, true, [(13, 0), (23, 0), (24, 0), (25, 0), (32, 0), (50, 0), (56, 1), (62, 0), (91, 0), (98, 0), (99, 0), (100, 0), (118, 0), (136, 0), (140, 0), (154, 0)], true, [(70, 1), (139, 1), (162, 1), (168, 3), (189, 3), (198, 3)]⟩
theorem Pmo : PA.mo = true → Try.prog.follows .mixedOrders = true := fun _ => by kernel_rfl
theorem PmoB : PB.mo = true → Try.prog.follows .mixedOrders = true := fun _ => by kernel_rfl
theorem Prun {f : FuncId} {k : K} {r : Nat × List RV} {args : List A} {v : A} (hc : cmpS PT PF PA (Try.prog.funcs[f]?) = some (r.1, r.2, stripK k)) (hn : args.length ≤ r.1) (hn2 : args.length ≤ 1000)
    (h : awp Try.prog k (FPost' r.2 fun a H => H = [] ∧ a = v) (entry args [])) : CallsF Try.prog f args v := callF_run (mkT_ok _ _) (mkF_ok _ _) PA Pmo hc hn hn2 h
theorem PrunA {f : FuncId} {k : K} {r : Nat × List RV} {args : List A} {H : List (Nat × Obj)} {R : A → List (Nat × Obj) → Prop} (hc : cmpS PT PF PA (Try.prog.funcs[f]?) = some (r.1, r.2, stripK k)) (hn : args.length ≤ r.1) (hn2 : args.length ≤ 1000)
    (h : awp Try.prog k (FPost' r.2 R) (entry args H)) : CallsA Try.prog f args H R := calls_runS (mkT_ok _ _) (mkF_ok _ _) PA Pmo hc hn hn2 h
theorem PfnOk (f : Nat) (h : PF.contains f = true) : FnOk Try.prog f := fnOk_of (mkF_ok _ _) h
theorem PrunB {f : FuncId} {k : K} {r : Nat × List RV} {args : List A} {H : List (Nat × Obj)} {R : A → List (Nat × Obj) → Prop} (hc : cmpS PT PF PB (Try.prog.funcs[f]?) = some (r.1, r.2, stripK k)) (hn : args.length ≤ r.1) (hn2 : args.length ≤ 1000)
    (h : awp Try.prog k (FPost' r.2 R) (entry args H)) : CallsA Try.prog f args H R := calls_runS (mkT_ok _ _) (mkF_ok _ _) PB PmoB hc hn hn2 h
end Go.Am
-- ints
namespace Go.Am
open Go.Proofs
set_option maxHeartbeats 4000000
set_option maxRecDepth 100000
-- 22 loop.example/g00485/laws.eqIntS
def k_laws_eqIntS : K :=
 .seq (
  .reg none [⟨(some 4), none, .asn (.c (.bool false))⟩]) (
 .seq (
  .seq (
   .reg none [⟨(some 6), none, .mv (.t 0)⟩,
     ⟨(some 7), none, .len (.t 6)⟩,
     ⟨(some 8), none, .mv (.t 1)⟩,
     ⟨(some 9), none, .len (.t 8)⟩,
     ⟨(some 10), none, .bin .neq (.t 7) (.t 9)⟩]) (
  .cond (.t 10) (
   .seq (
    .reg none [⟨(some 4), none, .asn (.c (.bool false))⟩]) (
   .ret)) (
   .skip))) (
 .seq (
  .seq (
   .reg none [⟨(some 5), none, .asn (.c (.int .i64 (0)))⟩]) (
  .block 0 (
   .loop (some ([0, 1, 5], [0, 1, 5, 1000])) (
    .seq (
     .seq (
      .reg none [⟨(some 11), none, .mv (.t 5)⟩,
        ⟨(some 12), none, .mv (.t 0)⟩,
        ⟨(some 13), none, .len (.t 12)⟩,
        ⟨(some 14), none, .bin .lss (.t 11) (.t 13)⟩]) (
     .cond (.t 14) (
      .skip) (
      .exit 0))) (
    .seq (
     .block 1 (
      .seq (
       .drw none 9 [⟨(some 17), none, .mv (.t 0)⟩,
         ⟨(some 18), none, .mv (.t 5)⟩,
         ⟨(some 19), none, .iad 1 (.t 17) (.t 18)⟩,
         ⟨(some 20), none, .ld 1 false (.t 19)⟩,
         ⟨(some 21), none, .mv (.t 1)⟩,
         ⟨(some 22), none, .mv (.t 5)⟩,
         ⟨(some 23), none, .iad 1 (.t 21) (.t 22)⟩,
         ⟨(some 24), none, .ld 1 false (.t 23)⟩,
         ⟨(some 25), none, .bin .neq (.t 20) (.t 24)⟩]) (
      .cond (.t 25) (
       .seq (
        .reg none [⟨(some 4), none, .asn (.c (.bool false))⟩]) (
       .ret)) (
       .skip)))) (
    .reg none [⟨(some 15), none, .mv (.t 5)⟩,
      ⟨(some 16), none, .bin .add (.t 15) (.c (.int .i64 (1)))⟩,
      ⟨(some 5), none, .asn (.t 16)⟩])))))) (
 .seq (
  .reg none [⟨(some 4), none, .asn (.c (.bool true))⟩]) (
 .ret))))
def r_laws_eqIntS : Nat × List RV := (26, [.t 4])

theorem c_laws_eqIntS : cmpS PT PF PA (Try.prog.funcs[22]?) = some (r_laws_eqIntS.1, r_laws_eqIntS.2, stripK k_laws_eqIntS) := by kernel_rfl

theorem h_eqIntS (xs : List Int) (hx : wL w0 xs < 2 ^ 40) : CallsF Try.prog 22 [.one (.ar false 0 1 (xs.map rI)), .one (.ar false 0 1 (xs.map rI))] (aB true) := by
  refine Prun c_laws_eqIntS (by simp [r_laws_eqIntS]) (by simp) ?_
  unfold k_laws_eqIntS r_laws_eqIntS
  rw [wL_w0] at hx
  simp
  refine awp_loop (fun n σ => ∃ i : Nat, i ≤ xs.length ∧ n = xs.length - i ∧ σ = ⟨[(0, .one (.ar false 0 1 (xs.map rI))), (1, .one (.ar false 0 1 (xs.map rI))), (5, aI i)], []⟩) (xs.length) ⟨0, by simp⟩ ?_
  rintro n σ ⟨i, hi, rfl, rfl⟩
  by_cases h : i < xs.length
  · simp [h]
    refine ⟨xs.length - (i + 1), by omega, i + 1, by omega, rfl, ?_⟩
    rw [wrapI (by omega) (by omega)]
    simp
  · simp [h]
-- 18 loop.example/g00485/laws.toIntS
def k_laws_toIntS : K :=
 .seq (
  .reg none [⟨(some 2), none, .asn (.c (.ar true 3 1 []))⟩]) (
 .seq (
  .reg none [⟨(some 5), none, .mv (.t 0)⟩,
    ⟨(some 6), none, .len (.t 5)⟩,
    ⟨(some 7), none, .mks 3 1 8 [(.int .i64 (0))] (.t 6) (.t 6)⟩,
    ⟨(some 3), none, .asn (.t 7)⟩]) (
 .seq (
  .seq (
   .reg none [⟨(some 4), none, .asn (.c (.int .i64 (0)))⟩]) (
  .block 0 (
   .loop (some ([0, 3, 4], [0, 3, 4, 1000])) (
    .seq (
     .seq (
      .reg none [⟨(some 8), none, .mv (.t 4)⟩,
        ⟨(some 9), none, .mv (.t 0)⟩,
        ⟨(some 10), none, .len (.t 9)⟩,
        ⟨(some 11), none, .bin .lss (.t 8) (.t 10)⟩]) (
     .cond (.t 11) (
      .skip) (
      .exit 0))) (
    .seq (
     .block 1 (
      .reg none [⟨(some 14), none, .mv (.t 3)⟩,
        ⟨(some 15), none, .mv (.t 4)⟩,
        ⟨(some 16), none, .mv (.t 0)⟩,
        ⟨(some 17), none, .mv (.t 4)⟩,
        ⟨(some 18), none, .iad 1 (.t 16) (.t 17)⟩,
        ⟨(some 19), none, .ld 1 false (.t 18)⟩,
        ⟨(some 20), none, .iad 1 (.t 14) (.t 15)⟩,
        ⟨none, none, .st 1 false (.t 20) (.t 19)⟩])) (
    .reg none [⟨(some 12), none, .mv (.t 4)⟩,
      ⟨(some 13), none, .bin .add (.t 12) (.c (.int .i64 (1)))⟩,
      ⟨(some 4), none, .asn (.t 13)⟩])))))) (
 .seq (
  .reg none [⟨(some 21), none, .mv (.t 3)⟩,
    ⟨(some 2), none, .asn (.t 21)⟩]) (
 .ret))))
def r_laws_toIntS : Nat × List RV := (22, [.t 2])

theorem c_laws_toIntS : cmpS PT PF PA (Try.prog.funcs[18]?) = some (r_laws_toIntS.1, r_laws_toIntS.2, stripK k_laws_toIntS) := by kernel_rfl

theorem h_toIntS (xs : List Int) (hx : wL w0 xs < 2 ^ 31) : CallsF Try.prog 18 [.one (.ar false 0 1 (xs.map rI))] (.one (.ar true 3 1 (xs.map rI))) := by
  refine Prun c_laws_toIntS (by simp [r_laws_toIntS]) (by simp) ?_
  unfold k_laws_toIntS r_laws_toIntS
  rw [wL_w0] at hx
  have hc : ((xs.length : Int) ≤ 4294967296) := by omega
  simp [hc]
  refine awp_loop (fun n σ => ∃ i : Nat, i ≤ xs.length ∧ n = xs.length - i ∧ σ = ⟨[(0, .one (.ar false 0 1 (xs.map rI))), (3, .one (.vw 3 1 3 [] 0 xs.length)), (4, aI i)], [(3, ⟨3, 1, part rI [.int .i64 0] xs i⟩)]⟩) (xs.length) ⟨0, by simp [part_zero]⟩ ?_
  rintro n σ ⟨i, hi, rfl, rfl⟩
  by_cases h : i < xs.length
  · simp [h, part_get h]
    refine ⟨xs.length - (i + 1), by omega, i + 1, by omega, rfl, ?_⟩
    rw [wrapI (by omega) (by omega)]
    have := part_set (r := rI) (z := [.int .i64 0]) h
    simp only [rI] at this
    simp [this]
  · have : i = xs.length := by omega
    subst this
    simp [part_all]
end Go.Am
-- Err_y
namespace Go.Am
open Go.Proofs
set_option maxHeartbeats 4000000
set_option maxRecDepth 100000
structure TErr where
  kind : Int
  pos : Int
  sym : Int
  deriving DecidableEq, Inhabited
def rErr (a : TErr) : List C := [cI a.kind, cI a.pos, cI a.sym]
def sErr (a : TErr) : List C := [cI a.kind, cI a.pos, cI a.sym]
def zErr : List C := [cI 0, cI 0, cI 0]
@[simp] theorem rErr_len (a : TErr) : (rErr a).length = 3 := rfl
@[simp] theorem sErr_len (a : TErr) : (sErr a).length = 3 := rfl
@[simp] theorem shr_rErr (a : TErr) : shrRow (rErr a) = sErr a := by simp [rErr, sErr]
@[simp] theorem shr_sErr (a : TErr) : shrRow (sErr a) = sErr a := by simp [sErr]
@[simp] theorem shrs_rErr (xs : List TErr) : shrRows (xs.map rErr) = xs.map sErr := shrRows_of shr_rErr xs
@[simp] theorem shrs_sErr (xs : List TErr) : shrRows (xs.map sErr) = xs.map sErr := shrRows_of shr_sErr xs
@[simp] theorem noSh_rErr (xs : List TErr) : noShRows (xs.map rErr) = true := noSh_of (fun a => by simp [rErr]) xs
def wErr (_ : TErr) : Nat := 0
def lErr (_ : TErr) : Prop := True
def mErr : Mk TErr := ⟨fun _ k => ⟨k, k + 1, k + 1 + 1⟩, fun _ => 1 + 1 + 1⟩
@[simp] theorem mErr_wr (a : TErr) (k : Int) : mErr.wr a k = ⟨k, k + 1, k + 1 + 1⟩ := rfl
@[simp] theorem mErr_n (a : TErr) : mErr.n a = 1 + 1 + 1 := rfl
end Go.Am
-- Slot_y
namespace Go.Am
open Go.Proofs
set_option maxHeartbeats 4000000
set_option maxRecDepth 100000
structure TSlot where
  sym : Int
  up : Int
  deriving DecidableEq, Inhabited
def rSlot (a : TSlot) : List C := [cI a.sym, cI a.up]
def sSlot (a : TSlot) : List C := [cI a.sym, cI a.up]
def zSlot : List C := [cI 0, cI 0]
@[simp] theorem rSlot_len (a : TSlot) : (rSlot a).length = 2 := rfl
@[simp] theorem sSlot_len (a : TSlot) : (sSlot a).length = 2 := rfl
@[simp] theorem shr_rSlot (a : TSlot) : shrRow (rSlot a) = sSlot a := by simp [rSlot, sSlot]
@[simp] theorem shr_sSlot (a : TSlot) : shrRow (sSlot a) = sSlot a := by simp [sSlot]
@[simp] theorem shrs_rSlot (xs : List TSlot) : shrRows (xs.map rSlot) = xs.map sSlot := shrRows_of shr_rSlot xs
@[simp] theorem shrs_sSlot (xs : List TSlot) : shrRows (xs.map sSlot) = xs.map sSlot := shrRows_of shr_sSlot xs
@[simp] theorem noSh_rSlot (xs : List TSlot) : noShRows (xs.map rSlot) = true := noSh_of (fun a => by simp [rSlot]) xs
def wSlot (_ : TSlot) : Nat := 0
def lSlot (_ : TSlot) : Prop := True
def mSlot : Mk TSlot := ⟨fun _ k => ⟨k, k + 1⟩, fun _ => 1 + 1⟩
@[simp] theorem mSlot_wr (a : TSlot) (k : Int) : mSlot.wr a k = ⟨k, k + 1⟩ := rfl
@[simp] theorem mSlot_n (a : TSlot) : mSlot.n a = 1 + 1 := rfl
end Go.Am
-- Node_y
namespace Go.Am
open Go.Proofs
set_option maxHeartbeats 4000000
set_option maxRecDepth 100000
structure TNode where
  kind : Int
  sym : Int
  alt : Int
  pos : Int
  kids : List Int
  deriving DecidableEq, Inhabited
def rNode (a : TNode) : List C := [cI a.kind, cI a.sym, cI a.alt, cI a.pos, .ar true 3 1 (a.kids.map rI)]
def sNode (a : TNode) : List C := [cI a.kind, cI a.sym, cI a.alt, cI a.pos, .ar false 0 1 (a.kids.map rI)]
def zNode : List C := [cI 0, cI 0, cI 0, cI 0, .ar true 3 1 []]
@[simp] theorem rNode_len (a : TNode) : (rNode a).length = 5 := rfl
@[simp] theorem sNode_len (a : TNode) : (sNode a).length = 5 := rfl
@[simp] theorem shr_rNode (a : TNode) : shrRow (rNode a) = sNode a := by simp [rNode, sNode]
@[simp] theorem shr_sNode (a : TNode) : shrRow (sNode a) = sNode a := by simp [sNode]
@[simp] theorem shrs_rNode (xs : List TNode) : shrRows (xs.map rNode) = xs.map sNode := shrRows_of shr_rNode xs
@[simp] theorem shrs_sNode (xs : List TNode) : shrRows (xs.map sNode) = xs.map sNode := shrRows_of shr_sNode xs
@[simp] theorem noSh_rNode (xs : List TNode) : noShRows (xs.map rNode) = true := noSh_of (fun a => by simp [rNode]) xs
def wNode (a : TNode) : Nat := wL w0 a.kids
def lNode (a : TNode) : Prop := lL l0 a.kids
def mNode : Mk TNode := ⟨fun a k => ⟨k, k + 1, k + 1 + 1, k + 1 + 1 + 1, mI.mkL a.kids (k + 1 + 1 + 1 + 1)⟩, fun a => 1 + 1 + 1 + 1 + mI.nL a.kids⟩
@[simp] theorem mNode_wr (a : TNode) (k : Int) : mNode.wr a k = ⟨k, k + 1, k + 1 + 1, k + 1 + 1 + 1, mI.mkL a.kids (k + 1 + 1 + 1 + 1)⟩ := rfl
@[simp] theorem mNode_n (a : TNode) : mNode.n a = 1 + 1 + 1 + 1 + mI.nL a.kids := rfl
end Go.Am
-- Tree_y
namespace Go.Am
open Go.Proofs
set_option maxHeartbeats 4000000
set_option maxRecDepth 100000
structure TTree where
  nodes : List TNode
  deriving DecidableEq, Inhabited
def rTree (a : TTree) : List C := [.ar true 185 5 (a.nodes.map rNode)]
def sTree (a : TTree) : List C := [.ar false 0 5 (a.nodes.map sNode)]
def zTree : List C := [.ar true 185 5 []]
@[simp] theorem rTree_len (a : TTree) : (rTree a).length = 1 := rfl
@[simp] theorem sTree_len (a : TTree) : (sTree a).length = 1 := rfl
@[simp] theorem shr_rTree (a : TTree) : shrRow (rTree a) = sTree a := by simp [rTree, sTree]
@[simp] theorem shr_sTree (a : TTree) : shrRow (sTree a) = sTree a := by simp [sTree]
@[simp] theorem shrs_rTree (xs : List TTree) : shrRows (xs.map rTree) = xs.map sTree := shrRows_of shr_rTree xs
@[simp] theorem shrs_sTree (xs : List TTree) : shrRows (xs.map sTree) = xs.map sTree := shrRows_of shr_sTree xs
@[simp] theorem noSh_rTree (xs : List TTree) : noShRows (xs.map rTree) = true := noSh_of (fun a => by simp [rTree]) xs
def wTree (a : TTree) : Nat := wL wNode a.nodes
def lTree (a : TTree) : Prop := lL lNode a.nodes
def mTree : Mk TTree := ⟨fun a k => ⟨mNode.mkL a.nodes (k)⟩, fun a => mNode.nL a.nodes⟩
@[simp] theorem mTree_wr (a : TTree) (k : Int) : mTree.wr a k = ⟨mNode.mkL a.nodes (k)⟩ := rfl
@[simp] theorem mTree_n (a : TTree) : mTree.n a = mNode.nL a.nodes := rfl
end Go.Am
-- Run_y
namespace Go.Am
open Go.Proofs
set_option maxHeartbeats 4000000
set_option maxRecDepth 100000
structure TRun where
  code : Int
  pos : Int
  look : Int
  cost : Int
  slots : List TSlot
  tree : TTree
  errs : List TErr
  deriving DecidableEq, Inhabited
def rRun (a : TRun) : List C := [cI a.code, cI a.pos, cI a.look, cI a.cost, .ar true 183 2 (a.slots.map rSlot), .ar true 185 5 (a.tree.nodes.map rNode), .ar true 187 3 (a.errs.map rErr)]
def sRun (a : TRun) : List C := [cI a.code, cI a.pos, cI a.look, cI a.cost, .ar false 0 2 (a.slots.map sSlot), .ar false 0 5 (a.tree.nodes.map sNode), .ar false 0 3 (a.errs.map sErr)]
def zRun : List C := [cI 0, cI 0, cI 0, cI 0, .ar true 183 2 [], .ar true 185 5 [], .ar true 187 3 []]
@[simp] theorem rRun_len (a : TRun) : (rRun a).length = 7 := rfl
@[simp] theorem sRun_len (a : TRun) : (sRun a).length = 7 := rfl
@[simp] theorem shr_rRun (a : TRun) : shrRow (rRun a) = sRun a := by simp [rRun, sRun]
@[simp] theorem shr_sRun (a : TRun) : shrRow (sRun a) = sRun a := by simp [sRun]
@[simp] theorem shrs_rRun (xs : List TRun) : shrRows (xs.map rRun) = xs.map sRun := shrRows_of shr_rRun xs
@[simp] theorem shrs_sRun (xs : List TRun) : shrRows (xs.map sRun) = xs.map sRun := shrRows_of shr_sRun xs
@[simp] theorem noSh_rRun (xs : List TRun) : noShRows (xs.map rRun) = true := noSh_of (fun a => by simp [rRun]) xs
def wRun (a : TRun) : Nat := wL wSlot a.slots + wTree a.tree + wL wErr a.errs
def lRun (a : TRun) : Prop := lL lSlot a.slots ∧ lTree a.tree ∧ lL lErr a.errs
def mRun : Mk TRun := ⟨fun a k => ⟨k, k + 1, k + 1 + 1, k + 1 + 1 + 1, mSlot.mkL a.slots (k + 1 + 1 + 1 + 1), ⟨mNode.mkL a.tree.nodes (k + 1 + 1 + 1 + 1 + mSlot.nL a.slots)⟩, mErr.mkL a.errs (k + 1 + 1 + 1 + 1 + mSlot.nL a.slots + mNode.nL a.tree.nodes)⟩, fun a => 1 + 1 + 1 + 1 + mSlot.nL a.slots + mNode.nL a.tree.nodes + mErr.nL a.errs⟩
@[simp] theorem mRun_wr (a : TRun) (k : Int) : mRun.wr a k = ⟨k, k + 1, k + 1 + 1, k + 1 + 1 + 1, mSlot.mkL a.slots (k + 1 + 1 + 1 + 1), ⟨mNode.mkL a.tree.nodes (k + 1 + 1 + 1 + 1 + mSlot.nL a.slots)⟩, mErr.mkL a.errs (k + 1 + 1 + 1 + 1 + mSlot.nL a.slots + mNode.nL a.tree.nodes)⟩ := rfl
@[simp] theorem mRun_n (a : TRun) : mRun.n a = 1 + 1 + 1 + 1 + mSlot.nL a.slots + mNode.nL a.tree.nodes + mErr.nL a.errs := rfl
end Go.Am
-- Job_y
namespace Go.Am
open Go.Proofs
set_option maxHeartbeats 4000000
set_option maxRecDepth 100000
structure TJob where
  ticket : Int
  gram : Int
  input : List Int
  run : TRun
  deriving DecidableEq, Inhabited
def rJob (a : TJob) : List C := [cI a.ticket, cI a.gram, .ar true 3 1 (a.input.map rI), cI a.run.code, cI a.run.pos, cI a.run.look, cI a.run.cost, .ar true 183 2 (a.run.slots.map rSlot), .ar true 185 5 (a.run.tree.nodes.map rNode), .ar true 187 3 (a.run.errs.map rErr)]
def sJob (a : TJob) : List C := [cI a.ticket, cI a.gram, .ar false 0 1 (a.input.map rI), cI a.run.code, cI a.run.pos, cI a.run.look, cI a.run.cost, .ar false 0 2 (a.run.slots.map sSlot), .ar false 0 5 (a.run.tree.nodes.map sNode), .ar false 0 3 (a.run.errs.map sErr)]
def zJob : List C := [cI 0, cI 0, .ar true 3 1 [], cI 0, cI 0, cI 0, cI 0, .ar true 183 2 [], .ar true 185 5 [], .ar true 187 3 []]
@[simp] theorem rJob_len (a : TJob) : (rJob a).length = 10 := rfl
@[simp] theorem sJob_len (a : TJob) : (sJob a).length = 10 := rfl
@[simp] theorem shr_rJob (a : TJob) : shrRow (rJob a) = sJob a := by simp [rJob, sJob]
@[simp] theorem shr_sJob (a : TJob) : shrRow (sJob a) = sJob a := by simp [sJob]
@[simp] theorem shrs_rJob (xs : List TJob) : shrRows (xs.map rJob) = xs.map sJob := shrRows_of shr_rJob xs
@[simp] theorem shrs_sJob (xs : List TJob) : shrRows (xs.map sJob) = xs.map sJob := shrRows_of shr_sJob xs
@[simp] theorem noSh_rJob (xs : List TJob) : noShRows (xs.map rJob) = true := noSh_of (fun a => by simp [rJob]) xs
def wJob (a : TJob) : Nat := wL w0 a.input + wRun a.run
def lJob (a : TJob) : Prop := lL l0 a.input ∧ lRun a.run
def mJob : Mk TJob := ⟨fun a k => ⟨k, k + 1, mI.mkL a.input (k + 1 + 1), ⟨k + 1 + 1 + mI.nL a.input, k + 1 + 1 + mI.nL a.input + 1, k + 1 + 1 + mI.nL a.input + 1 + 1, k + 1 + 1 + mI.nL a.input + 1 + 1 + 1, mSlot.mkL a.run.slots (k + 1 + 1 + mI.nL a.input + 1 + 1 + 1 + 1), ⟨mNode.mkL a.run.tree.nodes (k + 1 + 1 + mI.nL a.input + 1 + 1 + 1 + 1 + mSlot.nL a.run.slots)⟩, mErr.mkL a.run.errs (k + 1 + 1 + mI.nL a.input + 1 + 1 + 1 + 1 + mSlot.nL a.run.slots + mNode.nL a.run.tree.nodes)⟩⟩, fun a => 1 + 1 + mI.nL a.input + 1 + 1 + 1 + 1 + mSlot.nL a.run.slots + mNode.nL a.run.tree.nodes + mErr.nL a.run.errs⟩
@[simp] theorem mJob_wr (a : TJob) (k : Int) : mJob.wr a k = ⟨k, k + 1, mI.mkL a.input (k + 1 + 1), ⟨k + 1 + 1 + mI.nL a.input, k + 1 + 1 + mI.nL a.input + 1, k + 1 + 1 + mI.nL a.input + 1 + 1, k + 1 + 1 + mI.nL a.input + 1 + 1 + 1, mSlot.mkL a.run.slots (k + 1 + 1 + mI.nL a.input + 1 + 1 + 1 + 1), ⟨mNode.mkL a.run.tree.nodes (k + 1 + 1 + mI.nL a.input + 1 + 1 + 1 + 1 + mSlot.nL a.run.slots)⟩, mErr.mkL a.run.errs (k + 1 + 1 + mI.nL a.input + 1 + 1 + 1 + 1 + mSlot.nL a.run.slots + mNode.nL a.run.tree.nodes)⟩⟩ := rfl
@[simp] theorem mJob_n (a : TJob) : mJob.n a = 1 + 1 + mI.nL a.input + 1 + 1 + 1 + 1 + mSlot.nL a.run.slots + mNode.nL a.run.tree.nodes + mErr.nL a.run.errs := rfl
end Go.Am
-- Outcome_y
namespace Go.Am
open Go.Proofs
set_option maxHeartbeats 4000000
set_option maxRecDepth 100000
structure TOutcome where
  ticket : Int
  code : Int
  text : ByteArray
  deriving DecidableEq, Inhabited
def rOutcome (a : TOutcome) : List C := [cI a.ticket, cI a.code, .str a.text]
def sOutcome (a : TOutcome) : List C := [cI a.ticket, cI a.code, .str a.text]
def zOutcome : List C := [cI 0, cI 0, .str ⟨#[]⟩]
@[simp] theorem rOutcome_len (a : TOutcome) : (rOutcome a).length = 3 := rfl
@[simp] theorem sOutcome_len (a : TOutcome) : (sOutcome a).length = 3 := rfl
@[simp] theorem shr_rOutcome (a : TOutcome) : shrRow (rOutcome a) = sOutcome a := by simp [rOutcome, sOutcome]
@[simp] theorem shr_sOutcome (a : TOutcome) : shrRow (sOutcome a) = sOutcome a := by simp [sOutcome]
@[simp] theorem shrs_rOutcome (xs : List TOutcome) : shrRows (xs.map rOutcome) = xs.map sOutcome := shrRows_of shr_rOutcome xs
@[simp] theorem shrs_sOutcome (xs : List TOutcome) : shrRows (xs.map sOutcome) = xs.map sOutcome := shrRows_of shr_sOutcome xs
@[simp] theorem noSh_rOutcome (xs : List TOutcome) : noShRows (xs.map rOutcome) = true := noSh_of (fun a => by simp [rOutcome]) xs
def wOutcome (a : TOutcome) : Nat := a.text.size
def lOutcome (a : TOutcome) : Prop := a.text.size < 2 ^ 63
def mOutcome : Mk TOutcome := ⟨fun _ k => ⟨k, k + 1, mtx (k + 1 + 1)⟩, fun _ => 1 + 1 + 1⟩
@[simp] theorem mOutcome_wr (a : TOutcome) (k : Int) : mOutcome.wr a k = ⟨k, k + 1, mtx (k + 1 + 1)⟩ := rfl
@[simp] theorem mOutcome_n (a : TOutcome) : mOutcome.n a = 1 + 1 + 1 := rfl
end Go.Am
-- Tenant_y
namespace Go.Am
open Go.Proofs
set_option maxHeartbeats 4000000
set_option maxRecDepth 100000
structure TTenant where
  quantum : Int
  cls : Int
  budget : Int
  used : Int
  wait : Int
  turns : Int
  next : Int
  due : Int
  queue : List TJob
  out : List TOutcome
  deriving DecidableEq, Inhabited
def rTenant (a : TTenant) : List C := [cI a.quantum, cI a.cls, cI a.budget, cI a.used, cI a.wait, cI a.turns, cI a.next, cI a.due, .ar true 133 10 (a.queue.map rJob), .ar true 102 3 (a.out.map rOutcome)]
def sTenant (a : TTenant) : List C := [cI a.quantum, cI a.cls, cI a.budget, cI a.used, cI a.wait, cI a.turns, cI a.next, cI a.due, .ar false 0 10 (a.queue.map sJob), .ar false 0 3 (a.out.map sOutcome)]
def zTenant : List C := [cI 0, cI 0, cI 0, cI 0, cI 0, cI 0, cI 0, cI 0, .ar true 133 10 [], .ar true 102 3 []]
@[simp] theorem rTenant_len (a : TTenant) : (rTenant a).length = 10 := rfl
@[simp] theorem sTenant_len (a : TTenant) : (sTenant a).length = 10 := rfl
@[simp] theorem shr_rTenant (a : TTenant) : shrRow (rTenant a) = sTenant a := by simp [rTenant, sTenant]
@[simp] theorem shr_sTenant (a : TTenant) : shrRow (sTenant a) = sTenant a := by simp [sTenant]
@[simp] theorem shrs_rTenant (xs : List TTenant) : shrRows (xs.map rTenant) = xs.map sTenant := shrRows_of shr_rTenant xs
@[simp] theorem shrs_sTenant (xs : List TTenant) : shrRows (xs.map sTenant) = xs.map sTenant := shrRows_of shr_sTenant xs
@[simp] theorem noSh_rTenant (xs : List TTenant) : noShRows (xs.map rTenant) = true := noSh_of (fun a => by simp [rTenant]) xs
def wTenant (a : TTenant) : Nat := wL wJob a.queue + wL wOutcome a.out
def lTenant (a : TTenant) : Prop := lL lJob a.queue ∧ lL lOutcome a.out
def mTenant : Mk TTenant := ⟨fun a k => ⟨k, k + 1, k + 1 + 1, k + 1 + 1 + 1, k + 1 + 1 + 1 + 1, k + 1 + 1 + 1 + 1 + 1, k + 1 + 1 + 1 + 1 + 1 + 1, k + 1 + 1 + 1 + 1 + 1 + 1 + 1, mJob.mkL a.queue (k + 1 + 1 + 1 + 1 + 1 + 1 + 1 + 1), mOutcome.mkL a.out (k + 1 + 1 + 1 + 1 + 1 + 1 + 1 + 1 + mJob.nL a.queue)⟩, fun a => 1 + 1 + 1 + 1 + 1 + 1 + 1 + 1 + mJob.nL a.queue + mOutcome.nL a.out⟩
@[simp] theorem mTenant_wr (a : TTenant) (k : Int) : mTenant.wr a k = ⟨k, k + 1, k + 1 + 1, k + 1 + 1 + 1, k + 1 + 1 + 1 + 1, k + 1 + 1 + 1 + 1 + 1, k + 1 + 1 + 1 + 1 + 1 + 1, k + 1 + 1 + 1 + 1 + 1 + 1 + 1, mJob.mkL a.queue (k + 1 + 1 + 1 + 1 + 1 + 1 + 1 + 1), mOutcome.mkL a.out (k + 1 + 1 + 1 + 1 + 1 + 1 + 1 + 1 + mJob.nL a.queue)⟩ := rfl
@[simp] theorem mTenant_n (a : TTenant) : mTenant.n a = 1 + 1 + 1 + 1 + 1 + 1 + 1 + 1 + mJob.nL a.queue + mOutcome.nL a.out := rfl
end Go.Am
-- inr
namespace Go.Am
open Go.Proofs
set_option maxHeartbeats 4000000
set_option maxRecDepth 100000
def inr (a lo hi : Int) : Bool := decide (lo ≤ a) && decide (a ≤ hi)
theorem inr_iff {a lo hi : Int} : inr a lo hi = true ↔ lo ≤ a ∧ a ≤ hi := by simp [inr]
-- 54 loop.example/g00485/spec.l1In
def k_spec_l1In : K :=
 .seq (
  .reg none [⟨(some 6), none, .asn (.c (.bool false))⟩]) (
 .seq (
  .reg none [⟨(some 7), none, .mv (.t 0)⟩,
    ⟨(some 8), none, .mv (.t 1)⟩,
    ⟨(some 9), none, .bin .geq (.t 7) (.t 8)⟩,
    ⟨(some 10), none, .mv (.t 9)⟩,
    ⟨(some 11), (some (10, true)), .mv (.t 0)⟩,
    ⟨(some 12), (some (10, true)), .mv (.t 2)⟩,
    ⟨(some 13), (some (10, true)), .bin .leq (.t 11) (.t 12)⟩,
    ⟨(some 14), none, .pick (.t 10) (.t 13) (.c (.bool false))⟩,
    ⟨(some 6), none, .asn (.t 14)⟩]) (
 .ret))
def r_spec_l1In : Nat × List RV := (15, [.t 6])

theorem c_spec_l1In : cmpS PT PF PA (Try.prog.funcs[54]?) = some (r_spec_l1In.1, r_spec_l1In.2, stripK k_spec_l1In) := by kernel_rfl

theorem h_spec_l1In (a lo hi : Int) : CallsF Try.prog 54 [aI a, aI lo, aI hi] (aB (inr a lo hi)) := by
  refine Prun c_spec_l1In (by simp [r_spec_l1In]) (by simp) ?_
  unfold k_spec_l1In r_spec_l1In
  by_cases h : lo ≤ a
  · simp [h, inr]
  · simp [h, inr]
-- 93 loop.example/g00485/impl.inRange
def k_impl_inRange : K :=
 .seq (
  .reg none [⟨(some 6), none, .asn (.c (.bool false))⟩]) (
 .seq (
  .reg none [⟨(some 7), none, .mv (.t 0)⟩,
    ⟨(some 8), none, .mv (.t 1)⟩,
    ⟨(some 9), none, .bin .geq (.t 7) (.t 8)⟩,
    ⟨(some 10), none, .mv (.t 9)⟩,
    ⟨(some 11), (some (10, true)), .mv (.t 0)⟩,
    ⟨(some 12), (some (10, true)), .mv (.t 2)⟩,
    ⟨(some 13), (some (10, true)), .bin .leq (.t 11) (.t 12)⟩,
    ⟨(some 14), none, .pick (.t 10) (.t 13) (.c (.bool false))⟩,
    ⟨(some 6), none, .asn (.t 14)⟩]) (
 .ret))
def r_impl_inRange : Nat × List RV := (15, [.t 6])

theorem c_impl_inRange : cmpS PT PF PA (Try.prog.funcs[93]?) = some (r_impl_inRange.1, r_impl_inRange.2, stripK k_impl_inRange) := by kernel_rfl

theorem h_impl_inRange (a lo hi : Int) : CallsF Try.prog 93 [aI a, aI lo, aI hi] (aB (inr a lo hi)) := by
  refine Prun c_impl_inRange (by simp [r_impl_inRange]) (by simp) ?_
  unfold k_impl_inRange r_impl_inRange
  by_cases h : lo ≤ a
  · simp [h, inr]
  · simp [h, inr]
end Go.Am
-- lists
namespace Go.Am
open Go.Proofs
set_option maxHeartbeats 4000000
set_option maxRecDepth 100000
theorem all_step {α : Type} {p : α → Bool} {xs : List α} {i : Nat} (h : i < xs.length) : (xs.take (i + 1)).all p = ((xs.take i).all p && p xs[i]) := by
  rw [List.take_succ_eq_append_getElem h]
  simp only [List.all_append, List.all_cons, List.all_nil, Bool.and_true]
theorem all_ff {α : Type} {p : α → Bool} {xs : List α} {i : Nat} (h : i < xs.length) (hp : p xs[i] = false) : xs.all p = false := by
  cases ha : xs.all p with
  | false => rfl
  | true =>
    have := List.all_eq_true.1 ha xs[i] (List.getElem_mem h)
    rw [hp] at this; cases this
/-- All of the first i. -/
def allTo {α : Type} (p : α → Bool) (xs : List α) (i : Nat) : Bool := (xs.take i).all p
theorem allTo_zero {α : Type} {p : α → Bool} {xs : List α} : allTo p xs 0 = true := by simp [allTo]
theorem allTo_step {α : Type} {p : α → Bool} {xs : List α} {i : Nat} (h : i < xs.length) : allTo p xs (i + 1) = (allTo p xs i && p xs[i]) := all_step h
theorem allTo_all {α : Type} {p : α → Bool} {xs : List α} : allTo p xs xs.length = xs.all p := by rw [allTo, List.take_length]
/-- All below n. -/
def allN (p : Nat → Bool) : Nat → Bool
  | 0 => true
  | n + 1 => allN p n && p n
theorem allN_step {p : Nat → Bool} {n : Nat} : allN p (n + 1) = (allN p n && p n) := rfl
theorem allN_iff {p : Nat → Bool} : ∀ {n : Nat}, allN p n = true ↔ ∀ i, i < n → p i = true
  | 0 => by simp [allN]
  | n + 1 => by
    rw [allN, Bool.and_eq_true, allN_iff (n := n)]
    constructor
    · rintro ⟨h1, h2⟩ i hi
      by_cases h : i = n
      · subst h; exact h2
      · exact h1 i (by omega)
    · intro h; exact ⟨fun i hi => h i (by omega), h n (by omega)⟩
theorem allN_ff {p : Nat → Bool} {n i : Nat} (h : i < n) (hp : p i = false) : allN p n = false := by
  cases ha : allN p n with
  | false => rfl
  | true => have := allN_iff.1 ha i h; rw [hp] at this; cases this
end Go.Am
-- InputOk
namespace Go.Am
open Go.Proofs
set_option maxHeartbeats 4000000
set_option maxRecDepth 100000
def inputOk (w : List Int) : Bool := decide (w.length ≤ 10) && w.all (fun x => inr x 0 25)
-- 76 loop.example/g00485/spec.InputOk
def k_spec_InputOk : K :=
 .seq (
  .reg none [⟨(some 2), none, .asn (.c (.bool false))⟩]) (
 .seq (
  .seq (
   .reg none [⟨(some 4), none, .mv (.t 0)⟩,
     ⟨(some 5), none, .len (.t 4)⟩,
     ⟨(some 6), none, .bin .gtr (.t 5) (.c (.int .i64 (10)))⟩]) (
  .cond (.t 6) (
   .seq (
    .reg none [⟨(some 2), none, .asn (.c (.bool false))⟩]) (
   .ret)) (
   .skip))) (
 .seq (
  .seq (
   .reg none [⟨(some 3), none, .asn (.c (.int .i64 (0)))⟩]) (
  .block 0 (
   .loop (some ([0, 3], [0, 3, 1000])) (
    .seq (
     .seq (
      .reg none [⟨(some 7), none, .mv (.t 3)⟩,
        ⟨(some 8), none, .mv (.t 0)⟩,
        ⟨(some 9), none, .len (.t 8)⟩,
        ⟨(some 10), none, .bin .lss (.t 7) (.t 9)⟩]) (
     .cond (.t 10) (
      .skip) (
      .exit 0))) (
    .seq (
     .block 1 (
      .seq (
       .reg none [⟨(some 13), none, .mv (.t 0)⟩,
         ⟨(some 14), none, .mv (.t 3)⟩,
         ⟨(some 15), none, .iad 1 (.t 13) (.t 14)⟩,
         ⟨(some 16), none, .ld 1 false (.t 15)⟩,
         ⟨(some 17), none, .call 54 [(.t 16), (.c (.int .i64 (0))), (.c (.int .i64 (25)))]⟩,
         ⟨(some 18), none, .not (.t 17)⟩]) (
      .cond (.t 18) (
       .seq (
        .reg none [⟨(some 2), none, .asn (.c (.bool false))⟩]) (
       .ret)) (
       .skip)))) (
    .reg none [⟨(some 11), none, .mv (.t 3)⟩,
      ⟨(some 12), none, .bin .add (.t 11) (.c (.int .i64 (1)))⟩,
      ⟨(some 3), none, .asn (.t 12)⟩])))))) (
 .seq (
  .reg none [⟨(some 2), none, .asn (.c (.bool true))⟩]) (
 .ret))))
def r_spec_InputOk : Nat × List RV := (19, [.t 2])

theorem c_spec_InputOk : cmpS PT PF PA (Try.prog.funcs[76]?) = some (r_spec_InputOk.1, r_spec_InputOk.2, stripK k_spec_InputOk) := by kernel_rfl

theorem h_spec_InputOk (w : List Int) : CallsF Try.prog 76 [.one (.ar false 0 1 (w.map rI))] (aB (inputOk w)) := by
  refine Prun c_spec_InputOk (by simp [r_spec_InputOk]) (by simp) ?_
  unfold k_spec_InputOk r_spec_InputOk
  by_cases g : (10 : Int) < (w.length : Int)
  · have : ¬ w.length ≤ 10 := by omega
    simp [g, inputOk, this]
  have g' : w.length ≤ 10 := by omega
  simp [g]
  refine awp_loop (fun n σ => ∃ i : Nat, i ≤ w.length ∧ n = w.length - i ∧ allTo (fun x => inr x 0 25) w i = true ∧ σ = ⟨[(0, .one (.ar false 0 1 (w.map rI))), (3, aI i)], []⟩) w.length ⟨0, by simp [allTo_zero]⟩ ?_
  rintro n σ ⟨i, hi, rfl, ha, rfl⟩
  by_cases h : i < w.length
  · have hs := allTo_step (p := fun x => inr x 0 25) h
    simp [h]
    refine callG_F (h_spec_l1In _ _ _) (by simp) ?_
    cases c : inr w[i] 0 25
    · have := all_ff (p := fun x => inr x 0 25) h c
      simp [c, inputOk, this]
    · simp [c]
      refine ⟨w.length - (i + 1), by omega, i + 1, by omega, rfl, by rw [hs, ha, c]; rfl, ?_⟩
      rw [wrapI (by omega) (by omega)]
      simp
  · have : i = w.length := by omega
    subst this
    rw [allTo_all] at ha
    simp [inputOk, ha, g']
-- 128 loop.example/g00485/impl.isLetter
def k_impl_isLetter : K :=
 .seq (
  .reg none [⟨(some 2), none, .asn (.c (.bool false))⟩]) (
 .seq (
  .reg none [⟨(some 3), none, .mv (.t 0)⟩,
    ⟨(some 4), none, .call 93 [(.t 3), (.c (.int .i64 (0))), (.c (.int .i64 (25)))]⟩,
    ⟨(some 2), none, .asn (.t 4)⟩]) (
 .ret))
def r_impl_isLetter : Nat × List RV := (5, [.t 2])

theorem c_impl_isLetter : cmpS PT PF PA (Try.prog.funcs[128]?) = some (r_impl_isLetter.1, r_impl_isLetter.2, stripK k_impl_isLetter) := by kernel_rfl

theorem h_isLetter (a : Int) : CallsF Try.prog 128 [aI a] (aB (inr a 0 25)) := by
  refine Prun c_impl_isLetter (by simp [r_impl_isLetter]) (by simp) ?_
  unfold k_impl_isLetter r_impl_isLetter
  simp
  refine callG_F (h_impl_inRange _ _ _) (by simp) ?_
  simp
-- 96 loop.example/g00485/impl.InputOk
def k_impl_InputOk : K :=
 .seq (
  .reg none [⟨(some 2), none, .asn (.c (.bool false))⟩]) (
 .seq (
  .seq (
   .reg none [⟨(some 5), none, .mv (.t 0)⟩,
     ⟨(some 6), none, .len (.t 5)⟩,
     ⟨(some 7), none, .mv (.c (.int .i64 (0)))⟩]) (
  .block 0 (
   .loop (some ([0, 5, 6, 7], [0, 1000])) (
    .seq (
     .reg none [⟨(some 8), none, .bin .lss (.t 7) (.t 6)⟩]) (
    .seq (
     .cond (.t 8) (
      .skip) (
      .exit 0)) (
    .seq (
     .block 1 (
      .seq (
       .reg none [⟨(some 9), none, .iad 1 (.t 5) (.t 7)⟩,
         ⟨(some 10), none, .ld 1 false (.t 9)⟩,
         ⟨(some 4), none, .asn (.t 10)⟩]) (
      .seq (
       .reg none [⟨(some 11), none, .mv (.t 4)⟩,
         ⟨(some 12), none, .call 128 [(.t 11)]⟩,
         ⟨(some 13), none, .not (.t 12)⟩]) (
      .cond (.t 13) (
       .seq (
        .reg none [⟨(some 2), none, .asn (.c (.bool false))⟩]) (
       .ret)) (
       .skip))))) (
    .reg none [⟨(some 14), none, .bin .add (.t 7) (.c (.int .i64 (1)))⟩,
      ⟨(some 7), none, .mv (.t 14)⟩]))))))) (
 .seq (
  .reg none [⟨(some 15), none, .mv (.t 0)⟩,
    ⟨(some 16), none, .len (.t 15)⟩,
    ⟨(some 17), none, .bin .leq (.t 16) (.c (.int .i64 (10)))⟩,
    ⟨(some 2), none, .asn (.t 17)⟩]) (
 .ret)))
def r_impl_InputOk : Nat × List RV := (18, [.t 2])

theorem c_impl_InputOk : cmpS PT PF PA (Try.prog.funcs[96]?) = some (r_impl_InputOk.1, r_impl_InputOk.2, stripK k_impl_InputOk) := by kernel_rfl

theorem h_impl_InputOk (w : List Int) (hw : w.length < 2 ^ 63) : CallsF Try.prog 96 [.one (.ar false 0 1 (w.map rI))] (aB (inputOk w)) := by
  refine Prun c_impl_InputOk (by simp [r_impl_InputOk]) (by simp) ?_
  unfold k_impl_InputOk r_impl_InputOk
  simp
  refine awp_loop (fun n σ => ∃ i : Nat, i ≤ w.length ∧ n = w.length - i ∧ allTo (fun x => inr x 0 25) w i = true ∧ σ = ⟨[(0, .one (.ar false 0 1 (w.map rI))), (5, .one (.ar false 0 1 (w.map rI))), (6, aI w.length), (7, aI i)], []⟩) w.length ⟨0, by simp [allTo_zero]⟩ ?_
  rintro n σ ⟨i, hi, rfl, ha, rfl⟩
  by_cases h : i < w.length
  · have hs := allTo_step (p := fun x => inr x 0 25) h
    simp [h]
    refine callG_F (h_isLetter _) (by simp) ?_
    cases c : inr w[i] 0 25
    · have := all_ff (p := fun x => inr x 0 25) h c
      simp [c, inputOk, this]
    · simp [c]
      refine ⟨w.length - (i + 1), by omega, i + 1, by omega, rfl, by rw [hs, ha, c]; rfl, ?_⟩
      rw [wrapI (by omega) (by omega)]
      simp
  · have : i = w.length := by omega
    subst this
    rw [allTo_all] at ha
    by_cases g : (w.length : Int) ≤ 10
    · have g' : w.length ≤ 10 := by omega
      simp [inputOk, ha, g, g']
    · have g' : ¬ w.length ≤ 10 := by omega
      simp [inputOk, ha, g, g']
end Go.Am
-- codetext
namespace Go.Am
open Go.Proofs
set_option maxHeartbeats 4000000
set_option maxRecDepth 100000
def codeTexts : List ByteArray := [⟨#[100, 111, 110, 101]⟩, ⟨#[109, 117, 99, 104]⟩, ⟨#[105, 110, 112, 117, 116]⟩, ⟨#[103, 114, 97, 109]⟩, ⟨#[102, 117, 108, 108]⟩, ⟨#[99, 97, 110, 99, 101, 108]⟩, ⟨#[98, 117, 100, 103, 101, 116]⟩]
def codeText (k : Int) : ByteArray := if inr k 0 6 then codeTexts.getD k.toNat ⟨#[]⟩ else ⟨#[]⟩
theorem seven {a : Int} (h : inr a 0 6 = true) : a = 0 ∨ a = 1 ∨ a = 2 ∨ a = 3 ∨ a = 4 ∨ a = 5 ∨ a = 6 := by
  simp [inr] at h; omega
theorem wrap6 : IntKind.i64.wrap 6 = 6 := by decide
-- 88 loop.example/g00485/spec.CodeText
def k_spec_CodeText : K :=
 .seq (
  .reg none [⟨(some 2), none, .asn (.c (.str ⟨#[]⟩))⟩]) (
 .seq (
  .reg none [⟨(some 4), none, .bls 9 1 false [(.c (.str ⟨#[100, 111, 110, 101]⟩)), (.c (.str ⟨#[109, 117, 99, 104]⟩)), (.c (.str ⟨#[105, 110, 112, 117, 116]⟩)), (.c (.str ⟨#[103, 114, 97, 109]⟩)), (.c (.str ⟨#[102, 117, 108, 108]⟩)), (.c (.str ⟨#[99, 97, 110, 99, 101, 108]⟩)), (.c (.str ⟨#[98, 117, 100, 103, 101, 116]⟩))]⟩,
    ⟨(some 3), none, .asn (.t 4)⟩]) (
 .seq (
  .seq (
   .reg none [⟨(some 5), none, .mv (.t 0)⟩,
     ⟨(some 6), none, .mv (.t 3)⟩,
     ⟨(some 7), none, .len (.t 6)⟩,
     ⟨(some 8), none, .bin .sub (.t 7) (.c (.int .i64 (1)))⟩,
     ⟨(some 9), none, .call 54 [(.t 5), (.c (.int .i64 (0))), (.t 8)]⟩,
     ⟨(some 10), none, .not (.t 9)⟩]) (
  .cond (.t 10) (
   .seq (
    .reg none [⟨(some 2), none, .asn (.c (.str ⟨#[]⟩))⟩]) (
   .ret)) (
   .skip))) (
 .seq (
  .reg none [⟨(some 11), none, .mv (.t 3)⟩,
    ⟨(some 12), none, .mv (.t 0)⟩,
    ⟨(some 13), none, .iad 1 (.t 11) (.t 12)⟩,
    ⟨(some 14), none, .ld 1 false (.t 13)⟩,
    ⟨(some 2), none, .asn (.t 14)⟩]) (
 .ret))))
def r_spec_CodeText : Nat × List RV := (15, [.t 2])

theorem c_spec_CodeText : cmpS PT PF PA (Try.prog.funcs[88]?) = some (r_spec_CodeText.1, r_spec_CodeText.2, stripK k_spec_CodeText) := by kernel_rfl

theorem h_spec_CodeText (a : Int) : CallsF Try.prog 88 [aI a] (aS (codeText a)) := by
  refine Prun c_spec_CodeText (by simp [r_spec_CodeText]) (by simp) ?_
  unfold k_spec_CodeText r_spec_CodeText
  simp
  refine callG_F (h_spec_l1In _ _ _) (by simp) ?_
  rw [wrap6]
  by_cases h : inr a 0 6 = true
  · rcases seven h with rfl | rfl | rfl | rfl | rfl | rfl | rfl <;> simp [h, codeText, codeTexts, viewCs, viewC]
  · simp [h, codeText]
-- 90 loop.example/g00485/impl.CodeText
def k_impl_CodeText : K :=
 .seq (
  .reg none [⟨(some 2), none, .asn (.c (.str ⟨#[]⟩))⟩]) (
 .seq (
  .seq (
   .reg none [⟨(some 3), none, .mv (.t 0)⟩,
     ⟨(some 4), none, .call 93 [(.t 3), (.c (.int .i64 (0))), (.c (.int .i64 (6)))]⟩,
     ⟨(some 5), none, .not (.t 4)⟩]) (
  .cond (.t 5) (
   .seq (
    .reg none [⟨(some 2), none, .asn (.c (.str ⟨#[]⟩))⟩]) (
   .ret)) (
   .skip))) (
 .seq (
  .reg none [⟨(some 6), none, .bld false [(.str ⟨#[]⟩), (.str ⟨#[]⟩), (.str ⟨#[]⟩), (.str ⟨#[]⟩), (.str ⟨#[]⟩), (.str ⟨#[]⟩), (.str ⟨#[]⟩)] [(0, 1, (.c (.str ⟨#[100, 111, 110, 101]⟩))), (1, 1, (.c (.str ⟨#[109, 117, 99, 104]⟩))), (2, 1, (.c (.str ⟨#[105, 110, 112, 117, 116]⟩))), (3, 1, (.c (.str ⟨#[103, 114, 97, 109]⟩))), (4, 1, (.c (.str ⟨#[102, 117, 108, 108]⟩))), (5, 1, (.c (.str ⟨#[99, 97, 110, 99, 101, 108]⟩))), (6, 1, (.c (.str ⟨#[98, 117, 100, 103, 101, 116]⟩)))]⟩,
    ⟨(some 7), none, .mv (.t 0)⟩,
    ⟨(some 8), none, .idxa 7 1 false (.t 6) (.t 7)⟩,
    ⟨(some 2), none, .asn (.t 8)⟩]) (
 .ret)))
def r_impl_CodeText : Nat × List RV := (9, [.t 2])

theorem c_impl_CodeText : cmpS PT PF PA (Try.prog.funcs[90]?) = some (r_impl_CodeText.1, r_impl_CodeText.2, stripK k_impl_CodeText) := by kernel_rfl

theorem h_impl_CodeText (a : Int) : CallsF Try.prog 90 [aI a] (aS (codeText a)) := by
  refine Prun c_impl_CodeText (by simp [r_impl_CodeText]) (by simp) ?_
  unfold k_impl_CodeText r_impl_CodeText
  simp
  refine callG_F (h_impl_inRange _ _ _) (by simp) ?_
  by_cases h : inr a 0 6 = true
  · rcases seven h with rfl | rfl | rfl | rfl | rfl | rfl | rfl <;> simp [h, codeText, codeTexts, viewCs, viewC]
  · simp [h, codeText]
theorem codeText_nil (a : Int) : decide (codeText a = ⟨#[]⟩) = !inr a 0 6 := by
  cases h : inr a 0 6
  · simp [codeText, h]
  · rcases seven h with rfl | rfl | rfl | rfl | rfl | rfl | rfl <;> simp [codeText, h, codeTexts]
theorem codeText_no {a : Int} (h : inr a 0 6 = false) : codeText a = ⟨#[]⟩ := by simp [codeText, h]
theorem codeText_ne {a : Int} (h : inr a 0 6 = true) : (codeText a).toList.isEmpty = false := by
  rcases seven h with rfl | rfl | rfl | rfl | rfl | rfl | rfl <;> simp [codeText, h, codeTexts] <;> decide
end Go.Am
-- tenantok
namespace Go.Am
open Go.Proofs
set_option maxHeartbeats 4000000
set_option maxRecDepth 100000
def srtAt (l : List Int) (i : Nat) : Bool := decide (i = 0) || decide (l.getD (i - 1) 0 < l.getD i 0)
def qT (t : TTenant) : List Int := t.queue.map TJob.ticket
def oT (t : TTenant) : List Int := t.out.map TOutcome.ticket
def jobOk (j : TJob) : Bool := inputOk j.input && inr j.gram 0 3 && decide (j.run.code = 0)
def hdQ (t : TTenant) : Bool := inr t.quantum 1 20 && inr t.cls 0 2 && inr t.budget 0 5000 && inr t.used 0 t.budget
def hdC (t : TTenant) : Bool := inr t.wait 0 1000000 && inr t.turns 0 1000000 && inr t.due 0 1000000 && inr t.next 0 1000000 && inr (t.next - t.due) 0 6
def hasT (t : TTenant) (k : Int) : Nat := (qT t).count k + (oT t).count k
def p1T (t : TTenant) (k : Nat) : Bool := decide (hasT t (t.due + k) = 1)
def p2T (t : TTenant) (i : Nat) : Bool := srtAt (qT t) i && jobOk (t.queue.getD i default)
def p3T (t : TTenant) (i : Nat) : Bool := srtAt (oT t) i && inr (t.out.getD i default).code 0 6
def p4T (t : TTenant) (k : Nat) : Bool := decide (t.due + (k : Int) ∈ qT t ++ oT t)
/-- As the reference has it. -/
def tenantOkS (t : TTenant) : Bool :=
  hdQ t && hdC t && !(decide (0 < t.wait) && decide (t.queue.length = 0)) && decide (t.queue.length ≤ 4) && decide ((t.queue.length : Int) + t.out.length = t.next - t.due) &&
  allN (p1T t) (t.next - t.due).toNat && allN (p2T t) t.queue.length && allN (p3T t) t.out.length
/-- As the program has it. -/
def ticketsOk (t : TTenant) : Bool :=
  decide ((t.queue.length : Int) + t.out.length = t.next - t.due) && allN (srtAt (qT t)) t.queue.length &&
  allN (fun i => srtAt (oT t) i && inr (t.out.getD i default).code 0 6) t.out.length &&
  allN (fun k => decide (t.due + (k : Int) ∈ qT t ++ oT t)) (t.next - t.due).toNat
def tenantOk (t : TTenant) : Bool :=
  hdQ t && hdC t && !(decide (t.queue.length = 0) && decide (t.wait ≠ 0)) && decide (t.queue.length ≤ 4) && ticketsOk t && t.queue.all jobOk
/-- In how many places numbers from d on stand. -/
def cntF (l : List Int) (d : Int) : Nat → Nat
  | 0 => 0
  | n + 1 => cntF l d n + l.count (d + n)
theorem cntF_nil (d : Int) : ∀ n, cntF [] d n = 0
  | 0 => rfl
  | n + 1 => by simp [cntF, cntF_nil d n]
theorem cntF_cons (x : Int) (l : List Int) (d : Int) : ∀ n : Nat, cntF (x :: l) d n = cntF l d n + (if d ≤ x ∧ x < d + n then 1 else 0)
  | 0 => by
    have : ¬ (d ≤ x ∧ x < d + ((0 : Nat) : Int)) := by omega
    simp only [cntF, if_neg this]
  | n + 1 => by
    simp only [cntF, cntF_cons x l d n, List.count_cons]
    by_cases h1 : x = d + n
    · have h2 : ¬ (d ≤ x ∧ x < d + (n : Int)) := by omega
      have h3 : d ≤ x ∧ x < d + ((n + 1 : Nat) : Int) := by omega
      simp only [if_neg h2, if_pos h3]
      simp [h1]; omega
    · have h4 : (x == d + (n : Int)) = false := by simpa using h1
      rw [h4]
      by_cases h2 : d ≤ x ∧ x < d + (n : Int)
      · have h3 : d ≤ x ∧ x < d + ((n + 1 : Nat) : Int) := by omega
        simp only [if_pos h2, if_pos h3]; simp; omega
      · have h3 : ¬ (d ≤ x ∧ x < d + ((n + 1 : Nat) : Int)) := by omega
        simp only [if_neg h2, if_neg h3]; simp
theorem cntF_le (d : Int) (n : Nat) : ∀ l : List Int, cntF l d n ≤ l.length
  | [] => by rw [cntF_nil]; exact Nat.zero_le _
  | x :: l => by
    rw [cntF_cons, List.length_cons]
    have := cntF_le d n l
    split <;> omega
theorem cntF_ge (l : List Int) (d : Int) : ∀ n : Nat, (∀ k : Nat, k < n → 1 ≤ l.count (d + k)) → n ≤ cntF l d n ∧ ∀ k : Nat, k < n → n + (l.count (d + k) - 1) ≤ cntF l d n
  | 0, _ => ⟨Nat.zero_le _, fun k hk => by omega⟩
  | n + 1, h => by
    obtain ⟨h1, h2⟩ := cntF_ge l d n (fun k hk => h k (by omega))
    have h3 := h n (by omega)
    refine ⟨by simp only [cntF]; omega, fun k hk => ?_⟩
    simp only [cntF]
    by_cases hk2 : k = n
    · subst hk2; omega
    · have := h2 k (by omega); omega
theorem count_one {l : List Int} {d : Int} {n : Nat} (hn : l.length = n) : (∀ k : Nat, k < n → l.count (d + k) = 1) ↔ ∀ k : Nat, k < n → d + (k : Int) ∈ l := by
  constructor
  · intro h k hk
    exact List.count_pos_iff.1 (by rw [h k hk]; exact Nat.one_pos)
  · intro h k hk
    have h1 : ∀ k : Nat, k < n → 1 ≤ l.count (d + k) := fun k hk => List.count_pos_iff.2 (h k hk)
    have h2 := (cntF_ge l d n h1).2 k hk
    have h3 := cntF_le d n l
    have h4 := h1 k hk
    omega
theorem all_allN {α : Type} [Inhabited α] (p : α → Bool) (xs : List α) : xs.all p = allN (fun i => p (xs.getD i default)) xs.length := by
  rw [Bool.eq_iff_iff, allN_iff, List.all_eq_true]
  constructor
  · intro h i hi
    have : xs.getD i default = xs[i] := by simp [List.getD, hi]
    rw [this]; exact h _ (List.getElem_mem hi)
  · intro h x hx
    obtain ⟨i, hi, rfl⟩ := List.mem_iff_getElem.1 hx
    have : xs.getD i default = xs[i] := by simp [List.getD, hi]
    rw [← this]; exact h i hi
theorem allN_and (p q : Nat → Bool) : ∀ n, allN (fun i => p i && q i) n = (allN p n && allN q n)
  | 0 => rfl
  | n + 1 => by
    simp only [allN, allN_and p q n]
    cases allN p n <;> cases allN q n <;> cases p n <;> cases q n <;> rfl
theorem tenantOk_eq (t : TTenant) : tenantOkS t = tenantOk t := by
  have e1 : p1T t = fun k : Nat => decide (hasT t (t.due + k) = 1) := rfl
  have e2 : p2T t = fun i => srtAt (qT t) i && jobOk (t.queue.getD i default) := rfl
  have e3 : p3T t = fun i => srtAt (oT t) i && inr (t.out.getD i default).code 0 6 := rfl
  unfold tenantOkS tenantOk ticketsOk
  rw [e1, e2, e3]
  by_cases hd : hdQ t = true
  case neg => simp [Bool.eq_false_iff.2 hd]
  by_cases hc : hdC t = true
  case neg => simp [Bool.eq_false_iff.2 hc]
  rw [hd, hc]
  have hw : (decide (0 < t.wait) && decide (t.queue.length = 0)) = (decide (t.queue.length = 0) && decide (t.wait ≠ 0)) := by
    simp [hdC, inr] at hc
    rw [Bool.and_comm]; congr 1; rw [decide_eq_decide]; omega
  rw [hw, all_allN jobOk]
  simp only [allN_and]
  by_cases hl : (t.queue.length : Int) + t.out.length = t.next - t.due
  case neg => simp [hl]
  have hk : allN (fun k => decide (hasT t (t.due + k) = 1)) (t.next - t.due).toNat = allN (fun k => decide (t.due + (k : Int) ∈ qT t ++ oT t)) (t.next - t.due).toNat := by
    rw [Bool.eq_iff_iff, allN_iff, allN_iff]
    have := count_one (l := qT t ++ oT t) (d := t.due) (n := (t.next - t.due).toNat) (by simp [qT, oT]; omega)
    simp only [List.count_append] at this
    constructor
    · intro h k hk
      exact decide_eq_true (this.1 (fun k hk => of_decide_eq_true (h k hk)) k hk)
    · intro h k hk
      exact decide_eq_true (this.2 (fun k hk => of_decide_eq_true (h k hk)) k hk)
  rw [hk]
  simp only [hl, decide_true, Bool.true_and]
  cases allN (fun k => decide (t.due + (k : Int) ∈ qT t ++ oT t)) (t.next - t.due).toNat <;> cases allN (srtAt (qT t)) t.queue.length <;> cases allN (fun i => jobOk (t.queue.getD i default)) t.queue.length <;> cases allN (srtAt (oT t)) t.out.length <;> cases allN (fun i => inr (t.out.getD i default).code 0 6) t.out.length <;> simp
end Go.Am
-- Contains
namespace Go.Am
open Go.Proofs
set_option maxHeartbeats 4000000
set_option maxRecDepth 100000
def indexOf (xs : List Int) (x : Int) : Int := match xs.idxOf? x with
  | some i => i
  | none => -1
-- 169 slices.Index[[]int,int]
def k_slices_Index_int_int : K :=
 .seq (
  .reg none [⟨(some 4), none, .asn (.c (.int .i64 (0)))⟩]) (
 .seq (
  .seq (
   .reg none [⟨(some 6), none, .mv (.t 0)⟩,
     ⟨(some 7), none, .len (.t 6)⟩,
     ⟨(some 8), none, .mv (.c (.int .i64 (0)))⟩]) (
  .block 0 (
   .loop (some ([0, 1, 7, 8], [0, 1, 1000])) (
    .seq (
     .reg none [⟨(some 9), none, .bin .lss (.t 8) (.t 7)⟩]) (
    .seq (
     .cond (.t 9) (
      .skip) (
      .exit 0)) (
    .seq (
     .block 1 (
      .seq (
       .reg none [⟨(some 10), none, .mv (.t 8)⟩,
         ⟨(some 5), none, .asn (.t 10)⟩]) (
      .seq (
       .reg none [⟨(some 11), none, .mv (.t 1)⟩,
         ⟨(some 12), none, .mv (.t 0)⟩,
         ⟨(some 13), none, .mv (.t 5)⟩,
         ⟨(some 14), none, .iad 1 (.t 12) (.t 13)⟩,
         ⟨(some 15), none, .ld 1 false (.t 14)⟩,
         ⟨(some 16), none, .bin .eql (.t 11) (.t 15)⟩]) (
      .cond (.t 16) (
       .seq (
        .reg none [⟨(some 17), none, .mv (.t 5)⟩,
          ⟨(some 4), none, .asn (.t 17)⟩]) (
       .ret)) (
       .skip))))) (
    .reg none [⟨(some 18), none, .bin .add (.t 8) (.c (.int .i64 (1)))⟩,
      ⟨(some 8), none, .mv (.t 18)⟩]))))))) (
 .seq (
  .reg none [⟨(some 4), none, .asn (.c (.int .i64 (-1)))⟩]) (
 .ret)))
def r_slices_Index_int_int : Nat × List RV := (19, [.t 4])

theorem c_slices_Index_int_int : cmpS PT PF PA (Try.prog.funcs[169]?) = some (r_slices_Index_int_int.1, r_slices_Index_int_int.2, stripK k_slices_Index_int_int) := by kernel_rfl

theorem h_slicesIndex (xs : List Int) (x : Int) (hx : xs.length < 2 ^ 63) : CallsF Try.prog 169 [.one (.ar false 0 1 (xs.map rI)), aI x] (aI (indexOf xs x)) := by
  refine Prun c_slices_Index_int_int (by simp [r_slices_Index_int_int]) (by simp) ?_
  unfold k_slices_Index_int_int r_slices_Index_int_int
  simp
  refine awp_loop (fun n σ => ∃ i : Nat, i ≤ xs.length ∧ n = xs.length - i ∧ x ∉ xs.take i ∧ σ = ⟨[(0, .one (.ar false 0 1 (xs.map rI))), (1, aI x), (7, aI xs.length), (8, aI i)], []⟩) xs.length ⟨0, by simp⟩ ?_
  rintro n σ ⟨i, hi, rfl, ha, rfl⟩
  by_cases h : i < xs.length
  · by_cases c : x = xs[i]
    · have : indexOf xs x = i := by
        have : xs.idxOf? x = some i := by
          rw [List.idxOf?, List.findIdx?_eq_some_iff_getElem]
          refine ⟨h, by simp [c], fun j hj => ?_⟩
          simp only [beq_iff_eq, Bool.not_eq_true, beq_eq_false_iff_ne, ne_eq]
          intro he
          exact ha (by rw [← he]; exact List.mem_take_iff_getElem.2 ⟨j, by omega, rfl⟩)
        rw [indexOf, this]
      simp [h, ← c, this]
    · simp [h, c]
      refine ⟨xs.length - (i + 1), by omega, i + 1, by omega, rfl, ?_, ?_⟩
      · rw [List.take_succ_eq_append_getElem h]
        intro hm
        rcases List.mem_append.1 hm with hm | hm
        · exact ha hm
        · exact c (List.mem_singleton.1 hm)
      · rw [wrapI (by omega) (by omega)]
        simp
  · have : i = xs.length := by omega
    subst this
    rw [List.take_length] at ha
    have : indexOf xs x = -1 := by
      have : xs.idxOf? x = none := by
        rw [List.idxOf?_eq_none_iff]; exact ha
      rw [indexOf, this]
    simp [this]
-- 142 slices.Contains[[]int,int]
def k_slices_Contains_int_int : K :=
 .seq (
  .reg none [⟨(some 4), none, .asn (.c (.bool false))⟩]) (
 .seq (
  .reg none [⟨(some 5), none, .mv (.t 0)⟩,
    ⟨(some 6), none, .mv (.t 1)⟩,
    ⟨(some 7), none, .call 169 [(.t 5), (.t 6)]⟩,
    ⟨(some 8), none, .bin .geq (.t 7) (.c (.int .i64 (0)))⟩,
    ⟨(some 4), none, .asn (.t 8)⟩]) (
 .ret))
def r_slices_Contains_int_int : Nat × List RV := (9, [.t 4])

theorem c_slices_Contains_int_int : cmpS PT PF PA (Try.prog.funcs[142]?) = some (r_slices_Contains_int_int.1, r_slices_Contains_int_int.2, stripK k_slices_Contains_int_int) := by kernel_rfl

theorem h_slicesContains (xs : List Int) (x : Int) (hx : xs.length < 2 ^ 63) : CallsF Try.prog 142 [.one (.ar false 0 1 (xs.map rI)), aI x] (aB (decide (x ∈ xs))) := by
  refine Prun c_slices_Contains_int_int (by simp [r_slices_Contains_int_int]) (by simp) ?_
  unfold k_slices_Contains_int_int r_slices_Contains_int_int
  simp
  refine callG_F (h_slicesIndex _ _ hx) (by simp) ?_
  have : (0 ≤ indexOf xs x) ↔ x ∈ xs := by
    unfold indexOf
    split
    · rename_i i h
      have := List.isSome_idxOf? (l := xs) (a := x)
      rw [h] at this
      simp at this
      constructor
      · intro; exact this
      · intro; omega
    · rename_i h
      rw [List.idxOf?_eq_none_iff] at h
      constructor
      · intro; omega
      · intro h2; exact absurd h2 h
  simp [this]
end Go.Am
-- TenantOk
namespace Go.Am
open Go.Proofs
set_option maxHeartbeats 4000000
set_option maxRecDepth 100000
-- 141 loop.example/g00485/spec.l1Bit
def k_spec_l1Bit : K :=
 .seq (
  .reg none [⟨(some 2), none, .asn (.c (.int .i64 (0)))⟩]) (
 .seq (
  .seq (
   .reg none [⟨(some 3), none, .mv (.t 0)⟩]) (
  .cond (.t 3) (
   .seq (
    .reg none [⟨(some 2), none, .asn (.c (.int .i64 (1)))⟩]) (
   .ret)) (
   .skip))) (
 .seq (
  .reg none [⟨(some 2), none, .asn (.c (.int .i64 (0)))⟩]) (
 .ret)))
def r_spec_l1Bit : Nat × List RV := (4, [.t 2])

theorem c_spec_l1Bit : cmpS PT PF PA (Try.prog.funcs[141]?) = some (r_spec_l1Bit.1, r_spec_l1Bit.2, stripK k_spec_l1Bit) := by kernel_rfl

theorem h_l1Bit (b : Bool) : CallsF Try.prog 141 [aB b] (aI (if b then 1 else 0)) := by
  refine Prun c_spec_l1Bit (by simp [r_spec_l1Bit]) (by simp) ?_
  unfold k_spec_l1Bit r_spec_l1Bit
  cases b <;> simp
theorem cnt_step {α : Type} (f : α → Int) (xs : List α) (k : Int) (i : Nat) (h : i < xs.length) : ((xs.map f).take (i + 1)).count k = ((xs.map f).take i).count k + (if f xs[i] = k then 1 else 0) := by
  rw [List.take_succ_eq_append_getElem (by simpa using h), List.count_append]
  simp [List.count_cons]
-- 92 loop.example/g00485/spec.l14Has
def k_spec_l14Has : K :=
 .seq (
  .reg none [⟨(some 2), none, .box 25 10 (.t 0)⟩,
    ⟨(some 4), none, .asn (.c (.int .i64 (0)))⟩]) (
 .seq (
  .reg none [⟨(some 5), none, .asn (.c (.int .i64 (0)))⟩]) (
 .seq (
  .seq (
   .reg none [⟨(some 6), none, .asn (.c (.int .i64 (0)))⟩]) (
  .block 0 (
   .loop (some ([1, 2, 5, 6], [1, 2, 5, 6, 1000])) (
    .seq (
     .seq (
      .reg none [⟨(some 8), none, .mv (.t 6)⟩,
        ⟨(some 9), none, .fad 8 (.t 2)⟩,
        ⟨(some 10), none, .ld 1 false (.t 9)⟩,
        ⟨(some 11), none, .len (.t 10)⟩,
        ⟨(some 12), none, .bin .lss (.t 8) (.t 11)⟩]) (
     .cond (.t 12) (
      .skip) (
      .exit 0))) (
    .seq (
     .block 1 (
      .reg none [⟨(some 15), none, .mv (.t 5)⟩,
        ⟨(some 16), none, .fad 8 (.t 2)⟩,
        ⟨(some 17), none, .ld 1 false (.t 16)⟩,
        ⟨(some 18), none, .mv (.t 6)⟩,
        ⟨(some 19), none, .iad 10 (.t 17) (.t 18)⟩,
        ⟨(some 20), none, .fad 0 (.t 19)⟩,
        ⟨(some 21), none, .ld 1 false (.t 20)⟩,
        ⟨(some 22), none, .mv (.t 1)⟩,
        ⟨(some 23), none, .bin .eql (.t 21) (.t 22)⟩,
        ⟨(some 24), none, .call 141 [(.t 23)]⟩,
        ⟨(some 25), none, .bin .add (.t 15) (.t 24)⟩,
        ⟨(some 5), none, .asn (.t 25)⟩])) (
    .reg none [⟨(some 13), none, .mv (.t 6)⟩,
      ⟨(some 14), none, .bin .add (.t 13) (.c (.int .i64 (1)))⟩,
      ⟨(some 6), none, .asn (.t 14)⟩])))))) (
 .seq (
  .seq (
   .reg none [⟨(some 7), none, .asn (.c (.int .i64 (0)))⟩]) (
  .block 2 (
   .loop (some ([1, 2, 5, 7], [1, 2, 5, 7, 1000])) (
    .seq (
     .seq (
      .reg none [⟨(some 26), none, .mv (.t 7)⟩,
        ⟨(some 27), none, .fad 9 (.t 2)⟩,
        ⟨(some 28), none, .ld 1 false (.t 27)⟩,
        ⟨(some 29), none, .len (.t 28)⟩,
        ⟨(some 30), none, .bin .lss (.t 26) (.t 29)⟩]) (
     .cond (.t 30) (
      .skip) (
      .exit 2))) (
    .seq (
     .block 3 (
      .reg none [⟨(some 33), none, .mv (.t 5)⟩,
        ⟨(some 34), none, .fad 9 (.t 2)⟩,
        ⟨(some 35), none, .ld 1 false (.t 34)⟩,
        ⟨(some 36), none, .mv (.t 7)⟩,
        ⟨(some 37), none, .iad 3 (.t 35) (.t 36)⟩,
        ⟨(some 38), none, .fad 0 (.t 37)⟩,
        ⟨(some 39), none, .ld 1 false (.t 38)⟩,
        ⟨(some 40), none, .mv (.t 1)⟩,
        ⟨(some 41), none, .bin .eql (.t 39) (.t 40)⟩,
        ⟨(some 42), none, .call 141 [(.t 41)]⟩,
        ⟨(some 43), none, .bin .add (.t 33) (.t 42)⟩,
        ⟨(some 5), none, .asn (.t 43)⟩])) (
    .reg none [⟨(some 31), none, .mv (.t 7)⟩,
      ⟨(some 32), none, .bin .add (.t 31) (.c (.int .i64 (1)))⟩,
      ⟨(some 7), none, .asn (.t 32)⟩])))))) (
 .seq (
  .reg none [⟨(some 44), none, .mv (.t 5)⟩,
    ⟨(some 4), none, .asn (.t 44)⟩]) (
 .ret)))))
def r_spec_l14Has : Nat × List RV := (45, [.t 4])

theorem c_spec_l14Has : cmpS PT PF PA (Try.prog.funcs[92]?) = some (r_spec_l14Has.1, r_spec_l14Has.2, stripK k_spec_l14Has) := by kernel_rfl

theorem h_l14Has (t : TTenant) (k : Int) (hq : t.queue.length ≤ 4) (ho : t.out.length ≤ 100) : CallsF Try.prog 92 [.agg (sTenant t), aI k] (aI (hasT t k)) := by
  refine Prun c_spec_l14Has (by simp [r_spec_l14Has]) (by simp) ?_
  unfold k_spec_l14Has r_spec_l14Has
  have wr : ∀ (a b : Nat), a ≤ 4 → b ≤ 100 → IntKind.i64.wrap ((a : Int) + b) = (a : Int) + b := fun a b h1 h2 => wrapI (by omega) (by omega)
  simp [sTenant]
  refine awp_loop (fun n σ => ∃ i : Nat, i ≤ t.queue.length ∧ n = t.queue.length - i ∧ σ = ⟨[(1, aI k), (2, .one (.pt 10 2 [] 0 0)), (5, aI (((qT t).take i).count k)), (6, aI i)], [(2, ⟨25, 10, [sTenant t]⟩)]⟩) t.queue.length ⟨0, by simp [sTenant]⟩ ?_
  rintro n σ ⟨i, hi, rfl, rfl⟩
  by_cases h : i < t.queue.length
  · have hc := cnt_step TJob.ticket t.queue k i h
    rw [show t.queue.map TJob.ticket = qT t from rfl] at hc
    have hb : ((qT t).take i).count k ≤ i := Nat.le_trans List.count_le_length (by simp; omega)
    generalize ((qT t).take i).count k = n0 at *
    have w1 : IntKind.i64.wrap ((i : Int) + 1) = i + 1 := wrapI (by omega) (by omega)
    have w2 : IntKind.i64.wrap ((n0 : Int) + 1) = n0 + 1 := wrapI (by omega) (by omega)
    have w3 : IntKind.i64.wrap (n0 : Int) = n0 := wrapI (by omega) (by omega)
    simp [sTenant, h, sJob]
    refine callG_F (h_l1Bit _) (by simp) ?_
    by_cases c : t.queue[i].ticket = k
    · simp [c, w1, w2]
      refine ⟨t.queue.length - (i + 1), by omega, i + 1, by omega, rfl, ?_⟩
      simp [hc, c, sTenant]
    · simp [c, w1, w3]
      refine ⟨t.queue.length - (i + 1), by omega, i + 1, by omega, rfl, ?_⟩
      simp [hc, c, sTenant]
  have : i = t.queue.length := by omega
  subst this
  have e0 : (qT t).take t.queue.length = qT t := List.take_of_length_le (by simp [qT])
  have hb0 : (qT t).count k ≤ 4 := Nat.le_trans List.count_le_length (by simp [qT]; omega)
  rw [e0]
  simp [sTenant]
  refine awp_loop (fun n σ => ∃ i : Nat, i ≤ t.out.length ∧ n = t.out.length - i ∧ σ = ⟨[(1, aI k), (2, .one (.pt 10 2 [] 0 0)), (5, aI ((qT t).count k + ((oT t).take i).count k : Nat)), (7, aI i)], [(2, ⟨25, 10, [sTenant t]⟩)]⟩) t.out.length ⟨0, by simp [sTenant]⟩ ?_
  rintro n σ ⟨i, hi, rfl, rfl⟩
  by_cases h : i < t.out.length
  · have hc := cnt_step TOutcome.ticket t.out k i h
    rw [show t.out.map TOutcome.ticket = oT t from rfl] at hc
    have hb : ((oT t).take i).count k ≤ i := Nat.le_trans List.count_le_length (by simp; omega)
    generalize ((oT t).take i).count k = n1 at *
    generalize (qT t).count k = n0 at *
    have w1 : IntKind.i64.wrap ((i : Int) + 1) = i + 1 := wrapI (by omega) (by omega)
    have w2 : IntKind.i64.wrap ((n0 : Int) + n1 + 1) = n0 + n1 + 1 := wrapI (by omega) (by omega)
    have w3 : IntKind.i64.wrap ((n0 : Int) + n1) = n0 + n1 := wrapI (by omega) (by omega)
    simp [sTenant, h, sOutcome]
    refine callG_F (h_l1Bit _) (by simp) ?_
    by_cases c : t.out[i].ticket = k
    · simp [c, w1, w2]
      refine ⟨t.out.length - (i + 1), by omega, i + 1, by omega, rfl, ?_⟩
      simp [hc, c, sTenant]; omega
    · simp [c, w1, w3]
      refine ⟨t.out.length - (i + 1), by omega, i + 1, by omega, rfl, ?_⟩
      simp [hc, c, sTenant]
  have : i = t.out.length := by omega
  subst this
  have e0 : (oT t).take t.out.length = oT t := List.take_of_length_le (by simp [oT])
  rw [e0]
  simp [sTenant, hasT]
end Go.Am
-- TenantOkS
namespace Go.Am
open Go.Proofs
set_option maxHeartbeats 4000000
set_option maxRecDepth 100000
-- 47 loop.example/g00485/spec.TenantOk
def k_spec_TenantOk : K :=
 .seq (
  .reg none [⟨(some 1), none, .box 25 10 (.t 0)⟩,
    ⟨(some 2), none, .asn (.c (.bool false))⟩]) (
 .seq (
  .seq (
   .reg none [⟨(some 7), none, .fad 0 (.t 1)⟩,
     ⟨(some 8), none, .ld 1 false (.t 7)⟩,
     ⟨(some 9), none, .call 54 [(.t 8), (.c (.int .i64 (1))), (.c (.int .i64 (20)))]⟩,
     ⟨(some 10), none, .not (.t 9)⟩,
     ⟨(some 11), none, .mv (.t 10)⟩,
     ⟨(some 12), (some (11, false)), .fad 1 (.t 1)⟩,
     ⟨(some 13), (some (11, false)), .ld 1 false (.t 12)⟩,
     ⟨(some 14), (some (11, false)), .call 54 [(.t 13), (.c (.int .i64 (0))), (.c (.int .i64 (2)))]⟩,
     ⟨(some 15), (some (11, false)), .not (.t 14)⟩,
     ⟨(some 16), none, .pick (.t 11) (.c (.bool true)) (.t 15)⟩,
     ⟨(some 17), none, .mv (.t 16)⟩,
     ⟨(some 18), (some (17, false)), .fad 2 (.t 1)⟩,
     ⟨(some 19), (some (17, false)), .ld 1 false (.t 18)⟩,
     ⟨(some 20), (some (17, false)), .call 54 [(.t 19), (.c (.int .i64 (0))), (.c (.int .i64 (5000)))]⟩,
     ⟨(some 21), (some (17, false)), .not (.t 20)⟩,
     ⟨(some 22), none, .pick (.t 17) (.c (.bool true)) (.t 21)⟩,
     ⟨(some 23), none, .mv (.t 22)⟩,
     ⟨(some 24), (some (23, false)), .fad 3 (.t 1)⟩,
     ⟨(some 25), (some (23, false)), .ld 1 false (.t 24)⟩,
     ⟨(some 26), (some (23, false)), .fad 2 (.t 1)⟩,
     ⟨(some 27), (some (23, false)), .ld 1 false (.t 26)⟩,
     ⟨(some 28), (some (23, false)), .call 54 [(.t 25), (.c (.int .i64 (0))), (.t 27)]⟩,
     ⟨(some 29), (some (23, false)), .not (.t 28)⟩,
     ⟨(some 30), none, .pick (.t 23) (.c (.bool true)) (.t 29)⟩]) (
  .cond (.t 30) (
   .seq (
    .reg none [⟨(some 2), none, .asn (.c (.bool false))⟩]) (
   .ret)) (
   .skip))) (
 .seq (
  .seq (
   .reg none [⟨(some 31), none, .fad 4 (.t 1)⟩,
     ⟨(some 32), none, .ld 1 false (.t 31)⟩,
     ⟨(some 33), none, .call 54 [(.t 32), (.c (.int .i64 (0))), (.c (.int .i64 (1000000)))]⟩,
     ⟨(some 34), none, .not (.t 33)⟩,
     ⟨(some 35), none, .mv (.t 34)⟩,
     ⟨(some 36), (some (35, false)), .fad 5 (.t 1)⟩,
     ⟨(some 37), (some (35, false)), .ld 1 false (.t 36)⟩,
     ⟨(some 38), (some (35, false)), .call 54 [(.t 37), (.c (.int .i64 (0))), (.c (.int .i64 (1000000)))]⟩,
     ⟨(some 39), (some (35, false)), .not (.t 38)⟩,
     ⟨(some 40), none, .pick (.t 35) (.c (.bool true)) (.t 39)⟩,
     ⟨(some 41), none, .mv (.t 40)⟩,
     ⟨(some 42), (some (41, false)), .fad 4 (.t 1)⟩,
     ⟨(some 43), (some (41, false)), .ld 1 false (.t 42)⟩,
     ⟨(some 44), (some (41, false)), .bin .gtr (.t 43) (.c (.int .i64 (0)))⟩,
     ⟨(some 45), (some (41, false)), .mv (.t 44)⟩,
     ⟨(some 46), (some (45, true)), .fad 8 (.t 1)⟩,
     ⟨(some 47), (some (45, true)), .ld 1 false (.t 46)⟩,
     ⟨(some 48), (some (45, true)), .len (.t 47)⟩,
     ⟨(some 49), (some (45, true)), .bin .eql (.t 48) (.c (.int .i64 (0)))⟩,
     ⟨(some 50), (some (41, false)), .pick (.t 45) (.t 49) (.c (.bool false))⟩,
     ⟨(some 51), none, .pick (.t 41) (.c (.bool true)) (.t 50)⟩]) (
  .cond (.t 51) (
   .seq (
    .reg none [⟨(some 2), none, .asn (.c (.bool false))⟩]) (
   .ret)) (
   .skip))) (
 .seq (
  .seq (
   .reg none [⟨(some 52), none, .fad 7 (.t 1)⟩,
     ⟨(some 53), none, .ld 1 false (.t 52)⟩,
     ⟨(some 54), none, .call 54 [(.t 53), (.c (.int .i64 (0))), (.c (.int .i64 (1000000)))]⟩,
     ⟨(some 55), none, .not (.t 54)⟩,
     ⟨(some 56), none, .mv (.t 55)⟩,
     ⟨(some 57), (some (56, false)), .fad 6 (.t 1)⟩,
     ⟨(some 58), (some (56, false)), .ld 1 false (.t 57)⟩,
     ⟨(some 59), (some (56, false)), .call 54 [(.t 58), (.c (.int .i64 (0))), (.c (.int .i64 (1000000)))]⟩,
     ⟨(some 60), (some (56, false)), .not (.t 59)⟩,
     ⟨(some 61), none, .pick (.t 56) (.c (.bool true)) (.t 60)⟩,
     ⟨(some 62), none, .mv (.t 61)⟩,
     ⟨(some 63), (some (62, false)), .fad 6 (.t 1)⟩,
     ⟨(some 64), (some (62, false)), .ld 1 false (.t 63)⟩,
     ⟨(some 65), (some (62, false)), .fad 7 (.t 1)⟩,
     ⟨(some 66), (some (62, false)), .ld 1 false (.t 65)⟩,
     ⟨(some 67), (some (62, false)), .bin .sub (.t 64) (.t 66)⟩,
     ⟨(some 68), (some (62, false)), .call 54 [(.t 67), (.c (.int .i64 (0))), (.c (.int .i64 (6)))]⟩,
     ⟨(some 69), (some (62, false)), .not (.t 68)⟩,
     ⟨(some 70), none, .pick (.t 62) (.c (.bool true)) (.t 69)⟩,
     ⟨(some 71), none, .mv (.t 70)⟩,
     ⟨(some 72), (some (71, false)), .fad 8 (.t 1)⟩,
     ⟨(some 73), (some (71, false)), .ld 1 false (.t 72)⟩,
     ⟨(some 74), (some (71, false)), .len (.t 73)⟩,
     ⟨(some 75), (some (71, false)), .bin .gtr (.t 74) (.c (.int .i64 (4)))⟩,
     ⟨(some 76), none, .pick (.t 71) (.c (.bool true)) (.t 75)⟩,
     ⟨(some 77), none, .mv (.t 76)⟩,
     ⟨(some 78), (some (77, false)), .fad 8 (.t 1)⟩,
     ⟨(some 79), (some (77, false)), .ld 1 false (.t 78)⟩,
     ⟨(some 80), (some (77, false)), .len (.t 79)⟩,
     ⟨(some 81), (some (77, false)), .fad 9 (.t 1)⟩,
     ⟨(some 82), (some (77, false)), .ld 1 false (.t 81)⟩,
     ⟨(some 83), (some (77, false)), .len (.t 82)⟩,
     ⟨(some 84), (some (77, false)), .bin .add (.t 80) (.t 83)⟩,
     ⟨(some 85), (some (77, false)), .fad 6 (.t 1)⟩,
     ⟨(some 86), (some (77, false)), .ld 1 false (.t 85)⟩,
     ⟨(some 87), (some (77, false)), .fad 7 (.t 1)⟩,
     ⟨(some 88), (some (77, false)), .ld 1 false (.t 87)⟩,
     ⟨(some 89), (some (77, false)), .bin .sub (.t 86) (.t 88)⟩,
     ⟨(some 90), (some (77, false)), .bin .neq (.t 84) (.t 89)⟩,
     ⟨(some 91), none, .pick (.t 77) (.c (.bool true)) (.t 90)⟩]) (
  .cond (.t 91) (
   .seq (
    .reg none [⟨(some 2), none, .asn (.c (.bool false))⟩]) (
   .ret)) (
   .skip))) (
 .seq (
  .seq (
   .reg none [⟨(some 92), none, .fad 7 (.t 1)⟩,
     ⟨(some 93), none, .ld 1 false (.t 92)⟩,
     ⟨(some 3), none, .asn (.t 93)⟩]) (
  .block 0 (
   .loop (some ([1, 3], [1, 3, 1000])) (
    .seq (
     .seq (
      .reg none [⟨(some 94), none, .mv (.t 3)⟩,
        ⟨(some 95), none, .fad 6 (.t 1)⟩,
        ⟨(some 96), none, .ld 1 false (.t 95)⟩,
        ⟨(some 97), none, .bin .lss (.t 94) (.t 96)⟩]) (
     .cond (.t 97) (
      .skip) (
      .exit 0))) (
    .seq (
     .block 1 (
      .seq (
       .reg none [⟨(some 100), none, .ld 10 true (.t 1)⟩,
         ⟨(some 101), none, .mv (.t 3)⟩,
         ⟨(some 102), none, .call 92 [(.t 100), (.t 101)]⟩,
         ⟨(some 103), none, .bin .neq (.t 102) (.c (.int .i64 (1)))⟩]) (
      .cond (.t 103) (
       .seq (
        .reg none [⟨(some 2), none, .asn (.c (.bool false))⟩]) (
       .ret)) (
       .skip)))) (
    .reg none [⟨(some 98), none, .mv (.t 3)⟩,
      ⟨(some 99), none, .bin .add (.t 98) (.c (.int .i64 (1)))⟩,
      ⟨(some 3), none, .asn (.t 99)⟩])))))) (
 .seq (
  .seq (
   .reg none [⟨(some 4), none, .asn (.c (.int .i64 (0)))⟩]) (
  .block 2 (
   .loop (some ([1, 4], [1, 4, 1000])) (
    .seq (
     .seq (
      .reg none [⟨(some 104), none, .mv (.t 4)⟩,
        ⟨(some 105), none, .fad 8 (.t 1)⟩,
        ⟨(some 106), none, .ld 1 false (.t 105)⟩,
        ⟨(some 107), none, .len (.t 106)⟩,
        ⟨(some 108), none, .bin .lss (.t 104) (.t 107)⟩]) (
     .cond (.t 108) (
      .skip) (
      .exit 2))) (
    .seq (
     .block 3 (
      .seq (
       .reg none [⟨(some 111), none, .fad 8 (.t 1)⟩,
         ⟨(some 112), none, .ld 1 false (.t 111)⟩,
         ⟨(some 113), none, .mv (.t 4)⟩,
         ⟨(some 114), none, .iad 10 (.t 112) (.t 113)⟩,
         ⟨(some 115), none, .ld 10 true (.t 114)⟩,
         ⟨(some 5), none, .alc 133 10 [(.int .i64 (0)), (.int .i64 (0)), (.ar true 3 1 []), (.int .i64 (0)), (.int .i64 (0)), (.int .i64 (0)), (.int .i64 (0)), (.ar true 183 2 []), (.ar true 185 5 []), (.ar true 187 3 [])]⟩,
         ⟨none, none, .st 10 false (.t 5) (.t 115)⟩]) (
      .seq (
       .drw none 32 [⟨(some 116), none, .mv (.t 4)⟩,
         ⟨(some 117), none, .bin .gtr (.t 116) (.c (.int .i64 (0)))⟩,
         ⟨(some 118), none, .mv (.t 117)⟩,
         ⟨(some 119), (some (118, true)), .fad 0 (.t 5)⟩,
         ⟨(some 120), (some (118, true)), .ld 1 false (.t 119)⟩,
         ⟨(some 121), (some (118, true)), .fad 8 (.t 1)⟩,
         ⟨(some 122), (some (118, true)), .ld 1 false (.t 121)⟩,
         ⟨(some 123), (some (118, true)), .mv (.t 4)⟩,
         ⟨(some 124), (some (118, true)), .bin .sub (.t 123) (.c (.int .i64 (1)))⟩,
         ⟨(some 125), (some (118, true)), .iad 10 (.t 122) (.t 124)⟩,
         ⟨(some 126), (some (118, true)), .fad 0 (.t 125)⟩,
         ⟨(some 127), (some (118, true)), .ld 1 false (.t 126)⟩,
         ⟨(some 128), (some (118, true)), .bin .leq (.t 120) (.t 127)⟩,
         ⟨(some 129), none, .pick (.t 118) (.t 128) (.c (.bool false))⟩,
         ⟨(some 130), none, .mv (.t 129)⟩,
         ⟨(some 131), (some (130, false)), .fad 2 (.t 5)⟩,
         ⟨(some 132), (some (130, false)), .ld 1 false (.t 131)⟩,
         ⟨(some 133), (some (130, false)), .call 76 [(.t 132)]⟩,
         ⟨(some 134), (some (130, false)), .not (.t 133)⟩,
         ⟨(some 135), none, .pick (.t 130) (.c (.bool true)) (.t 134)⟩,
         ⟨(some 136), none, .mv (.t 135)⟩,
         ⟨(some 137), (some (136, false)), .fad 1 (.t 5)⟩,
         ⟨(some 138), (some (136, false)), .ld 1 false (.t 137)⟩,
         ⟨(some 139), (some (136, false)), .call 54 [(.t 138), (.c (.int .i64 (0))), (.c (.int .i64 (3)))]⟩,
         ⟨(some 140), (some (136, false)), .not (.t 139)⟩,
         ⟨(some 141), none, .pick (.t 136) (.c (.bool true)) (.t 140)⟩,
         ⟨(some 142), none, .mv (.t 141)⟩,
         ⟨(some 143), (some (142, false)), .fad 3 (.t 5)⟩,
         ⟨(some 144), (some (142, false)), .fad 0 (.t 143)⟩,
         ⟨(some 145), (some (142, false)), .ld 1 false (.t 144)⟩,
         ⟨(some 146), (some (142, false)), .bin .neq (.t 145) (.c (.int .i64 (0)))⟩,
         ⟨(some 147), none, .pick (.t 142) (.c (.bool true)) (.t 146)⟩]) (
      .cond (.t 147) (
       .seq (
        .reg none [⟨(some 2), none, .asn (.c (.bool false))⟩]) (
       .ret)) (
       .skip))))) (
    .reg none [⟨(some 109), none, .mv (.t 4)⟩,
      ⟨(some 110), none, .bin .add (.t 109) (.c (.int .i64 (1)))⟩,
      ⟨(some 4), none, .asn (.t 110)⟩])))))) (
 .seq (
  .seq (
   .reg none [⟨(some 6), none, .asn (.c (.int .i64 (0)))⟩]) (
  .block 4 (
   .loop (some ([1, 6], [1, 6, 1000])) (
    .seq (
     .seq (
      .reg none [⟨(some 148), none, .mv (.t 6)⟩,
        ⟨(some 149), none, .fad 9 (.t 1)⟩,
        ⟨(some 150), none, .ld 1 false (.t 149)⟩,
        ⟨(some 151), none, .len (.t 150)⟩,
        ⟨(some 152), none, .bin .lss (.t 148) (.t 151)⟩]) (
     .cond (.t 152) (
      .skip) (
      .exit 4))) (
    .seq (
     .block 5 (
      .seq (
       .drw none 28 [⟨(some 155), none, .mv (.t 6)⟩,
         ⟨(some 156), none, .bin .gtr (.t 155) (.c (.int .i64 (0)))⟩,
         ⟨(some 157), none, .mv (.t 156)⟩,
         ⟨(some 158), (some (157, true)), .fad 9 (.t 1)⟩,
         ⟨(some 159), (some (157, true)), .ld 1 false (.t 158)⟩,
         ⟨(some 160), (some (157, true)), .mv (.t 6)⟩,
         ⟨(some 161), (some (157, true)), .iad 3 (.t 159) (.t 160)⟩,
         ⟨(some 162), (some (157, true)), .fad 0 (.t 161)⟩,
         ⟨(some 163), (some (157, true)), .ld 1 false (.t 162)⟩,
         ⟨(some 164), (some (157, true)), .fad 9 (.t 1)⟩,
         ⟨(some 165), (some (157, true)), .ld 1 false (.t 164)⟩,
         ⟨(some 166), (some (157, true)), .mv (.t 6)⟩,
         ⟨(some 167), (some (157, true)), .bin .sub (.t 166) (.c (.int .i64 (1)))⟩,
         ⟨(some 168), (some (157, true)), .iad 3 (.t 165) (.t 167)⟩,
         ⟨(some 169), (some (157, true)), .fad 0 (.t 168)⟩,
         ⟨(some 170), (some (157, true)), .ld 1 false (.t 169)⟩,
         ⟨(some 171), (some (157, true)), .bin .leq (.t 163) (.t 170)⟩,
         ⟨(some 172), none, .pick (.t 157) (.t 171) (.c (.bool false))⟩,
         ⟨(some 173), none, .mv (.t 172)⟩,
         ⟨(some 174), (some (173, false)), .fad 9 (.t 1)⟩,
         ⟨(some 175), (some (173, false)), .ld 1 false (.t 174)⟩,
         ⟨(some 176), (some (173, false)), .mv (.t 6)⟩,
         ⟨(some 177), (some (173, false)), .iad 3 (.t 175) (.t 176)⟩,
         ⟨(some 178), (some (173, false)), .fad 1 (.t 177)⟩,
         ⟨(some 179), (some (173, false)), .ld 1 false (.t 178)⟩,
         ⟨(some 180), (some (173, false)), .call 88 [(.t 179)]⟩,
         ⟨(some 181), (some (173, false)), .bin .eql (.t 180) (.c (.str ⟨#[]⟩))⟩,
         ⟨(some 182), none, .pick (.t 173) (.c (.bool true)) (.t 181)⟩]) (
      .cond (.t 182) (
       .seq (
        .reg none [⟨(some 2), none, .asn (.c (.bool false))⟩]) (
       .ret)) (
       .skip)))) (
    .reg none [⟨(some 153), none, .mv (.t 6)⟩,
      ⟨(some 154), none, .bin .add (.t 153) (.c (.int .i64 (1)))⟩,
      ⟨(some 6), none, .asn (.t 154)⟩])))))) (
 .seq (
  .reg none [⟨(some 2), none, .asn (.c (.bool true))⟩]) (
 .ret))))))))
def r_spec_TenantOk : Nat × List RV := (183, [.t 2])

theorem c_spec_TenantOk : cmpS PT PF PA (Try.prog.funcs[47]?) = some (r_spec_TenantOk.1, r_spec_TenantOk.2, stripK k_spec_TenantOk) := by kernel_rfl

set_option maxRecDepth 100000 in
theorem h_spec_TenantOk (t : TTenant) (hw : wTenant t < 2 ^ 40) : CallsF Try.prog 47 [.agg (sTenant t)] (aB (tenantOkS t)) := by
  refine Prun c_spec_TenantOk (by simp [r_spec_TenantOk]) (by simp) ?_
  unfold k_spec_TenantOk r_spec_TenantOk
  have hlq := wL_len wJob t.queue
  have hlo := wL_len wOutcome t.out
  simp only [wTenant] at hw
  simp [sTenant]
  refine callG_F (h_spec_l1In _ _ _) (by simp) ?_
  cases c1 : inr t.quantum 1 20
  · simp [c1, tenantOkS, hdQ]
  simp [c1]
  refine callG_F (h_spec_l1In _ _ _) (by simp) ?_
  cases c2 : inr t.cls 0 2
  · simp [c2, tenantOkS, hdQ]
  simp [c2]
  refine callG_F (h_spec_l1In _ _ _) (by simp) ?_
  cases c3 : inr t.budget 0 5000
  · simp [c3, tenantOkS, hdQ]
  simp [c3]
  refine callG_F (h_spec_l1In _ _ _) (by simp) ?_
  cases c4 : inr t.used 0 t.budget
  · simp [c4, tenantOkS, hdQ]
  simp [c4]
  refine callG_F (h_spec_l1In _ _ _) (by simp) ?_
  cases c5 : inr t.wait 0 1000000
  · simp [c5, tenantOkS, hdC]
  simp [c5]
  refine callG_F (h_spec_l1In _ _ _) (by simp) ?_
  cases c6 : inr t.turns 0 1000000
  · simp [c6, tenantOkS, hdC]
  simp [c6]
  have b5 := inr_iff.1 c5
  have wn : ∀ {n : Int}, -4000000 ≤ n → n ≤ 4000000 → IntKind.i64.wrap n = n := fun h1 h2 => wrapI (by omega) (by omega)
  have wq : IntKind.i64.wrap ((t.queue.length : Int) + t.out.length) = t.queue.length + t.out.length := wrapI (by omega) (by omega)
  by_cases g1 : 0 < t.wait
  · by_cases g2 : t.queue.length = 0
    · have g3 : t.queue = [] := List.eq_nil_of_length_eq_zero g2
      simp [g1, g3, tenantOkS]
    simp [g1, g2]
    refine callG_F (h_spec_l1In _ _ _) (by simp) ?_
    cases c7 : inr t.due 0 1000000
    · simp [c7, tenantOkS, hdC]
    simp [c7]
    refine callG_F (h_spec_l1In _ _ _) (by simp) ?_
    cases c8 : inr t.next 0 1000000
    · simp [c8, tenantOkS, hdC]
    have b7 := inr_iff.1 c7
    have b8 := inr_iff.1 c8
    have wd : IntKind.i64.wrap (t.next - t.due) = t.next - t.due := wn (by omega) (by omega)
    simp [c8, wd]
    refine callG_F (h_spec_l1In _ _ _) (by simp) ?_
    cases c9 : inr (t.next - t.due) 0 6
    · simp [c9, tenantOkS, hdC]
    simp [c9]
    have b9 := inr_iff.1 c9
    by_cases g4 : (4 : Int) < t.queue.length
    · have g4' : ¬ t.queue.length ≤ 4 := by omega
      simp [g4, g4', tenantOkS]
    have g4' : t.queue.length ≤ 4 := by omega
    simp [g4, wq, wd]
    by_cases g5 : (t.queue.length : Int) + t.out.length = t.next - t.due
    case neg => simp [g5, tenantOkS]
    simp [g5]
    obtain ⟨N, hN⟩ : ∃ N : Nat, (N : Int) = t.next - t.due := ⟨(t.next - t.due).toNat, by omega⟩
    have hN2 : (t.next - t.due).toNat = N := by omega
    refine awp_loop (fun n σ => ∃ i : Nat, i ≤ N ∧ n = N - i ∧ allN (p1T t) i = true ∧ σ = ⟨[(1, .one (.pt 10 1 [] 0 0)), (3, aI (t.due + i))], [(1, ⟨25, 10, [sTenant t]⟩)]⟩) N ⟨0, by simp [sTenant, allN]⟩ ?_
    rintro n σ ⟨i, hi, rfl, ha, rfl⟩
    by_cases h : i < N
    · have h' : t.due + (i : Int) < t.next := by omega
      have w1 : IntKind.i64.wrap (t.due + (i : Int) + 1) = t.due + (i + 1 : Nat) := by rw [wn (by omega) (by omega)]; omega
      simp [sTenant, h', -Int.natCast_add]
      refine callG_F (h_l14Has t (t.due + i) (by omega) (by omega)) (by simp [sTenant]) ?_
      by_cases c : hasT t (t.due + i) = 1
      · simp [c]
        refine ⟨N - (i + 1), by omega, i + 1, by omega, rfl, by rw [allN_step, ha]; simp [p1T, c], ?_⟩
        rw [w1]
      · have hf := allN_ff (p := p1T t) h (by simpa [p1T] using c)
        have c' : ¬ ((hasT t (t.due + i) : Nat) : Int) = 1 := by omega
        simp [c', tenantOkS, hN2, hf]
    have : i = N := by omega
    subst this
    have ha1 := ha
    clear ha
    have h' : ¬ (t.due + (i : Int) < t.next) := by omega
    simp [sTenant, h']
    clear h h' hi
    refine awp_loop (fun n σ => ∃ i : Nat, i ≤ t.queue.length ∧ n = t.queue.length - i ∧ allN (p2T t) i = true ∧ σ = ⟨[(1, .one (.pt 10 1 [] 0 0)), (4, aI i)], [(1, ⟨25, 10, [sTenant t]⟩)]⟩) t.queue.length ⟨0, by simp [sTenant, allN]⟩ ?_
    rintro n σ ⟨i, hi, rfl, ha, rfl⟩
    by_cases h : i < t.queue.length
    · have hqi : (qT t).getD i 0 = t.queue[i].ticket := by simp [qT, List.getD, h]
      have hqj : t.queue.getD i default = t.queue[i] := by simp [List.getD, h]
      have w1 : IntKind.i64.wrap ((i : Int) + 1) = i + 1 := wrapI (by omega) (by omega)
      have hff : p2T t i = false → tenantOkS t = false := fun hp => by
        have := allN_ff h hp
        unfold tenantOkS
        rw [this]; simp only [Bool.and_false, Bool.false_and]
      have hin : ∀ {b : Bool}, inputOk t.queue[i].input = b → (b = false → p2T t i = false) := fun h1 h2 => by
        unfold p2T; rw [hqj, jobOk, h1, h2]; simp only [Bool.and_false, Bool.false_and]
      have hst : p2T t i = true → allN (p2T t) (i + 1) = true := fun hp => by rw [allN_step, ha, hp]; rfl
      by_cases h0 : i = 0
      · have hsr : srtAt (qT t) i = true := by simp [srtAt, h0]
        have h0n : ¬ 0 < i := by omega
        simp [sTenant, h, sJob, h0n]
        refine ⟨_, by simp, h_spec_InputOk _, ?_⟩
        cases d1 : inputOk t.queue[i].input
        · have := hff (by unfold p2T; rw [hqj, jobOk, d1]; simp only [Bool.and_false, Bool.false_and])
          simp [this]
        simp
        refine ⟨_, by simp, h_spec_l1In _ _ _, ?_⟩
        cases d2 : inr t.queue[i].gram 0 3
        · have := hff (by unfold p2T; rw [hqj, jobOk, d2]; simp only [Bool.and_false, Bool.false_and])
          simp [this]
        simp
        by_cases d3 : t.queue[i].run.code = 0
        · have hp : p2T t i = true := by unfold p2T; rw [hqj, jobOk, d1, d2, d3, hsr]; rfl
          simp [d3]
          refine ⟨t.queue.length - (i + 1), by omega, i + 1, by omega, rfl, hst hp, ?_⟩
          simp [w1, sTenant]
        · have := hff (by unfold p2T; rw [hqj, jobOk]; simp [d3])
          simp [d3, this]
      · have h1 : i - 1 < t.queue.length := by omega
        have h0' : ¬ (i : Int) = 0 := by omega
        have h0'' : 0 < i := by omega
        have w2 : IntKind.i64.wrap ((i : Int) - 1) = ((i - 1 : Nat) : Int) := by rw [wrapI (by omega) (by omega)]; omega
        have hqi1 : (qT t).getD (i - 1) 0 = t.queue[i - 1].ticket := by simp [qT, List.getD, h1]
        simp [sTenant, h, sJob, h0'', w2, h1]
        by_cases c0 : t.queue[i].ticket ≤ t.queue[i - 1].ticket
        · have hsr : srtAt (qT t) i = false := by simp only [srtAt, hqi, hqi1]; simp [h0]; omega
          have := hff (by unfold p2T; rw [hsr]; rfl)
          simp [c0, this]
        have hsr : srtAt (qT t) i = true := by simp only [srtAt, hqi, hqi1]; simp; omega
        simp [c0]
        refine ⟨_, by simp, h_spec_InputOk _, ?_⟩
        cases d1 : inputOk t.queue[i].input
        · have := hff (by unfold p2T; rw [hqj, jobOk, d1]; simp only [Bool.and_false, Bool.false_and])
          simp [this]
        simp
        refine ⟨_, by simp, h_spec_l1In _ _ _, ?_⟩
        cases d2 : inr t.queue[i].gram 0 3
        · have := hff (by unfold p2T; rw [hqj, jobOk, d2]; simp only [Bool.and_false, Bool.false_and])
          simp [this]
        simp
        by_cases d3 : t.queue[i].run.code = 0
        · have hp : p2T t i = true := by unfold p2T; rw [hqj, jobOk, d1, d2, d3, hsr]; rfl
          simp [d3]
          refine ⟨t.queue.length - (i + 1), by omega, i + 1, by omega, rfl, hst hp, ?_⟩
          simp [w1, sTenant]
        · have := hff (by unfold p2T; rw [hqj, jobOk]; simp [d3])
          simp [d3, this]
    have : i = t.queue.length := by omega
    subst this
    have ha2 := ha
    clear ha
    simp [sTenant]
    refine awp_loop (fun n σ => ∃ i : Nat, i ≤ t.out.length ∧ n = t.out.length - i ∧ allN (p3T t) i = true ∧ σ = ⟨[(1, .one (.pt 10 1 [] 0 0)), (6, aI i)], [(1, ⟨25, 10, [sTenant t]⟩)]⟩) t.out.length ⟨0, by simp [sTenant, allN]⟩ ?_
    rintro n σ ⟨i, hi, rfl, ha, rfl⟩
    by_cases h : i < t.out.length
    · have hqi : (oT t).getD i 0 = t.out[i].ticket := by simp [oT, List.getD, h]
      have hqj : t.out.getD i default = t.out[i] := by simp [List.getD, h]
      have w1 : IntKind.i64.wrap ((i : Int) + 1) = i + 1 := wrapI (by omega) (by omega)
      have hff : p3T t i = false → tenantOkS t = false := fun hp => by
        have := allN_ff h hp
        unfold tenantOkS
        rw [this]; simp only [Bool.and_false]
      have hst : p3T t i = true → allN (p3T t) (i + 1) = true := fun hp => by rw [allN_step, ha, hp]; rfl
      by_cases h0 : i = 0
      · have hsr : srtAt (oT t) i = true := by simp [srtAt, h0]
        have h0n : ¬ 0 < i := by omega
        simp [sTenant, h, sOutcome, h0n]
        refine ⟨_, by simp, h_spec_CodeText _, ?_⟩
        cases d1 : inr t.out[i].code 0 6
        · have := hff (by unfold p3T; rw [hqj, d1]; simp only [Bool.and_false])
          simp [aS, codeText_no d1, this]
        · have hp : p3T t i = true := by unfold p3T; rw [hqj, d1, hsr]; rfl
          simp [aS, codeText_ne d1]
          refine ⟨t.out.length - (i + 1), by omega, i + 1, by omega, rfl, hst hp, ?_⟩
          simp [w1, sTenant]
      · have h1 : i - 1 < t.out.length := by omega
        have h0'' : 0 < i := by omega
        have w2 : IntKind.i64.wrap ((i : Int) - 1) = ((i - 1 : Nat) : Int) := by rw [wrapI (by omega) (by omega)]; omega
        have hqi1 : (oT t).getD (i - 1) 0 = t.out[i - 1].ticket := by simp [oT, List.getD, h1]
        simp [sTenant, h, sOutcome, h0'', w2, h1]
        by_cases c0 : t.out[i].ticket ≤ t.out[i - 1].ticket
        · have hsr : srtAt (oT t) i = false := by simp only [srtAt, hqi, hqi1]; simp [h0]; omega
          have := hff (by unfold p3T; rw [hsr]; rfl)
          simp [c0, this]
        have hsr : srtAt (oT t) i = true := by simp only [srtAt, hqi, hqi1]; simp; omega
        simp [c0, h, sOutcome]
        refine ⟨_, by simp, h_spec_CodeText _, ?_⟩
        cases d1 : inr t.out[i].code 0 6
        · have := hff (by unfold p3T; rw [hqj, d1]; simp only [Bool.and_false])
          simp [aS, codeText_no d1, this]
        · have hp : p3T t i = true := by unfold p3T; rw [hqj, d1, hsr]; rfl
          simp [aS, codeText_ne d1]
          refine ⟨t.out.length - (i + 1), by omega, i + 1, by omega, rfl, hst hp, ?_⟩
          simp [w1, sTenant]
    have : i = t.out.length := by omega
    subst this
    have hfin : tenantOkS t = true := by
      unfold tenantOkS
      rw [hN2, ha1, ha2, ha]
      simp [hdQ, hdC, c1, c2, c3, c4, c5, c6, c7, c8, c9, g1, g4', g5, g2]
    simp [sTenant, hfin]
  · simp [g1]
    refine callG_F (h_spec_l1In _ _ _) (by simp) ?_
    cases c7 : inr t.due 0 1000000
    · simp [c7, tenantOkS, hdC]
    simp [c7]
    refine callG_F (h_spec_l1In _ _ _) (by simp) ?_
    cases c8 : inr t.next 0 1000000
    · simp [c8, tenantOkS, hdC]
    have b7 := inr_iff.1 c7
    have b8 := inr_iff.1 c8
    have wd : IntKind.i64.wrap (t.next - t.due) = t.next - t.due := wn (by omega) (by omega)
    simp [c8, wd]
    refine callG_F (h_spec_l1In _ _ _) (by simp) ?_
    cases c9 : inr (t.next - t.due) 0 6
    · simp [c9, tenantOkS, hdC]
    simp [c9]
    have b9 := inr_iff.1 c9
    by_cases g4 : (4 : Int) < t.queue.length
    · have g4' : ¬ t.queue.length ≤ 4 := by omega
      simp [g4, g4', tenantOkS]
    have g4' : t.queue.length ≤ 4 := by omega
    simp [g4, wq, wd]
    by_cases g5 : (t.queue.length : Int) + t.out.length = t.next - t.due
    case neg => simp [g5, tenantOkS]
    simp [g5]
    obtain ⟨N, hN⟩ : ∃ N : Nat, (N : Int) = t.next - t.due := ⟨(t.next - t.due).toNat, by omega⟩
    have hN2 : (t.next - t.due).toNat = N := by omega
    refine awp_loop (fun n σ => ∃ i : Nat, i ≤ N ∧ n = N - i ∧ allN (p1T t) i = true ∧ σ = ⟨[(1, .one (.pt 10 1 [] 0 0)), (3, aI (t.due + i))], [(1, ⟨25, 10, [sTenant t]⟩)]⟩) N ⟨0, by simp [sTenant, allN]⟩ ?_
    rintro n σ ⟨i, hi, rfl, ha, rfl⟩
    by_cases h : i < N
    · have h' : t.due + (i : Int) < t.next := by omega
      have w1 : IntKind.i64.wrap (t.due + (i : Int) + 1) = t.due + (i + 1 : Nat) := by rw [wn (by omega) (by omega)]; omega
      simp [sTenant, h', -Int.natCast_add]
      refine callG_F (h_l14Has t (t.due + i) (by omega) (by omega)) (by simp [sTenant]) ?_
      by_cases c : hasT t (t.due + i) = 1
      · simp [c]
        refine ⟨N - (i + 1), by omega, i + 1, by omega, rfl, by rw [allN_step, ha]; simp [p1T, c], ?_⟩
        rw [w1]
      · have hf := allN_ff (p := p1T t) h (by simpa [p1T] using c)
        have c' : ¬ ((hasT t (t.due + i) : Nat) : Int) = 1 := by omega
        simp [c', tenantOkS, hN2, hf]
    have : i = N := by omega
    subst this
    have ha1 := ha
    clear ha
    have h' : ¬ (t.due + (i : Int) < t.next) := by omega
    simp [sTenant, h']
    clear h h' hi
    refine awp_loop (fun n σ => ∃ i : Nat, i ≤ t.queue.length ∧ n = t.queue.length - i ∧ allN (p2T t) i = true ∧ σ = ⟨[(1, .one (.pt 10 1 [] 0 0)), (4, aI i)], [(1, ⟨25, 10, [sTenant t]⟩)]⟩) t.queue.length ⟨0, by simp [sTenant, allN]⟩ ?_
    rintro n σ ⟨i, hi, rfl, ha, rfl⟩
    by_cases h : i < t.queue.length
    · have hqi : (qT t).getD i 0 = t.queue[i].ticket := by simp [qT, List.getD, h]
      have hqj : t.queue.getD i default = t.queue[i] := by simp [List.getD, h]
      have w1 : IntKind.i64.wrap ((i : Int) + 1) = i + 1 := wrapI (by omega) (by omega)
      have hff : p2T t i = false → tenantOkS t = false := fun hp => by
        have := allN_ff h hp
        unfold tenantOkS
        rw [this]; simp only [Bool.and_false, Bool.false_and]
      have hin : ∀ {b : Bool}, inputOk t.queue[i].input = b → (b = false → p2T t i = false) := fun h1 h2 => by
        unfold p2T; rw [hqj, jobOk, h1, h2]; simp only [Bool.and_false, Bool.false_and]
      have hst : p2T t i = true → allN (p2T t) (i + 1) = true := fun hp => by rw [allN_step, ha, hp]; rfl
      by_cases h0 : i = 0
      · have hsr : srtAt (qT t) i = true := by simp [srtAt, h0]
        have h0n : ¬ 0 < i := by omega
        simp [sTenant, h, sJob, h0n]
        refine ⟨_, by simp, h_spec_InputOk _, ?_⟩
        cases d1 : inputOk t.queue[i].input
        · have := hff (by unfold p2T; rw [hqj, jobOk, d1]; simp only [Bool.and_false, Bool.false_and])
          simp [this]
        simp
        refine ⟨_, by simp, h_spec_l1In _ _ _, ?_⟩
        cases d2 : inr t.queue[i].gram 0 3
        · have := hff (by unfold p2T; rw [hqj, jobOk, d2]; simp only [Bool.and_false, Bool.false_and])
          simp [this]
        simp
        by_cases d3 : t.queue[i].run.code = 0
        · have hp : p2T t i = true := by unfold p2T; rw [hqj, jobOk, d1, d2, d3, hsr]; rfl
          simp [d3]
          refine ⟨t.queue.length - (i + 1), by omega, i + 1, by omega, rfl, hst hp, ?_⟩
          simp [w1, sTenant]
        · have := hff (by unfold p2T; rw [hqj, jobOk]; simp [d3])
          simp [d3, this]
      · have h1 : i - 1 < t.queue.length := by omega
        have h0' : ¬ (i : Int) = 0 := by omega
        have h0'' : 0 < i := by omega
        have w2 : IntKind.i64.wrap ((i : Int) - 1) = ((i - 1 : Nat) : Int) := by rw [wrapI (by omega) (by omega)]; omega
        have hqi1 : (qT t).getD (i - 1) 0 = t.queue[i - 1].ticket := by simp [qT, List.getD, h1]
        simp [sTenant, h, sJob, h0'', w2, h1]
        by_cases c0 : t.queue[i].ticket ≤ t.queue[i - 1].ticket
        · have hsr : srtAt (qT t) i = false := by simp only [srtAt, hqi, hqi1]; simp [h0]; omega
          have := hff (by unfold p2T; rw [hsr]; rfl)
          simp [c0, this]
        have hsr : srtAt (qT t) i = true := by simp only [srtAt, hqi, hqi1]; simp; omega
        simp [c0]
        refine ⟨_, by simp, h_spec_InputOk _, ?_⟩
        cases d1 : inputOk t.queue[i].input
        · have := hff (by unfold p2T; rw [hqj, jobOk, d1]; simp only [Bool.and_false, Bool.false_and])
          simp [this]
        simp
        refine ⟨_, by simp, h_spec_l1In _ _ _, ?_⟩
        cases d2 : inr t.queue[i].gram 0 3
        · have := hff (by unfold p2T; rw [hqj, jobOk, d2]; simp only [Bool.and_false, Bool.false_and])
          simp [this]
        simp
        by_cases d3 : t.queue[i].run.code = 0
        · have hp : p2T t i = true := by unfold p2T; rw [hqj, jobOk, d1, d2, d3, hsr]; rfl
          simp [d3]
          refine ⟨t.queue.length - (i + 1), by omega, i + 1, by omega, rfl, hst hp, ?_⟩
          simp [w1, sTenant]
        · have := hff (by unfold p2T; rw [hqj, jobOk]; simp [d3])
          simp [d3, this]
    have : i = t.queue.length := by omega
    subst this
    have ha2 := ha
    clear ha
    simp [sTenant]
    refine awp_loop (fun n σ => ∃ i : Nat, i ≤ t.out.length ∧ n = t.out.length - i ∧ allN (p3T t) i = true ∧ σ = ⟨[(1, .one (.pt 10 1 [] 0 0)), (6, aI i)], [(1, ⟨25, 10, [sTenant t]⟩)]⟩) t.out.length ⟨0, by simp [sTenant, allN]⟩ ?_
    rintro n σ ⟨i, hi, rfl, ha, rfl⟩
    by_cases h : i < t.out.length
    · have hqi : (oT t).getD i 0 = t.out[i].ticket := by simp [oT, List.getD, h]
      have hqj : t.out.getD i default = t.out[i] := by simp [List.getD, h]
      have w1 : IntKind.i64.wrap ((i : Int) + 1) = i + 1 := wrapI (by omega) (by omega)
      have hff : p3T t i = false → tenantOkS t = false := fun hp => by
        have := allN_ff h hp
        unfold tenantOkS
        rw [this]; simp only [Bool.and_false]
      have hst : p3T t i = true → allN (p3T t) (i + 1) = true := fun hp => by rw [allN_step, ha, hp]; rfl
      by_cases h0 : i = 0
      · have hsr : srtAt (oT t) i = true := by simp [srtAt, h0]
        have h0n : ¬ 0 < i := by omega
        simp [sTenant, h, sOutcome, h0n]
        refine ⟨_, by simp, h_spec_CodeText _, ?_⟩
        cases d1 : inr t.out[i].code 0 6
        · have := hff (by unfold p3T; rw [hqj, d1]; simp only [Bool.and_false])
          simp [aS, codeText_no d1, this]
        · have hp : p3T t i = true := by unfold p3T; rw [hqj, d1, hsr]; rfl
          simp [aS, codeText_ne d1]
          refine ⟨t.out.length - (i + 1), by omega, i + 1, by omega, rfl, hst hp, ?_⟩
          simp [w1, sTenant]
      · have h1 : i - 1 < t.out.length := by omega
        have h0'' : 0 < i := by omega
        have w2 : IntKind.i64.wrap ((i : Int) - 1) = ((i - 1 : Nat) : Int) := by rw [wrapI (by omega) (by omega)]; omega
        have hqi1 : (oT t).getD (i - 1) 0 = t.out[i - 1].ticket := by simp [oT, List.getD, h1]
        simp [sTenant, h, sOutcome, h0'', w2, h1]
        by_cases c0 : t.out[i].ticket ≤ t.out[i - 1].ticket
        · have hsr : srtAt (oT t) i = false := by simp only [srtAt, hqi, hqi1]; simp [h0]; omega
          have := hff (by unfold p3T; rw [hsr]; rfl)
          simp [c0, this]
        have hsr : srtAt (oT t) i = true := by simp only [srtAt, hqi, hqi1]; simp; omega
        simp [c0, h, sOutcome]
        refine ⟨_, by simp, h_spec_CodeText _, ?_⟩
        cases d1 : inr t.out[i].code 0 6
        · have := hff (by unfold p3T; rw [hqj, d1]; simp only [Bool.and_false])
          simp [aS, codeText_no d1, this]
        · have hp : p3T t i = true := by unfold p3T; rw [hqj, d1, hsr]; rfl
          simp [aS, codeText_ne d1]
          refine ⟨t.out.length - (i + 1), by omega, i + 1, by omega, rfl, hst hp, ?_⟩
          simp [w1, sTenant]
    have : i = t.out.length := by omega
    subst this
    have hfin : tenantOkS t = true := by
      unfold tenantOkS
      rw [hN2, ha1, ha2, ha]
      simp [hdQ, hdC, c1, c2, c3, c4, c5, c6, c7, c8, c9, g1, g4', g5, Int.not_lt.1 g1]
    simp [sTenant, hfin]
end Go.Am
-- Tickets
namespace Go.Am
open Go.Proofs
set_option maxHeartbeats 4000000
set_option maxRecDepth 100000
-- 94 loop.example/g00485/impl.isCount
def k_impl_isCount : K :=
 .seq (
  .reg none [⟨(some 2), none, .asn (.c (.bool false))⟩]) (
 .seq (
  .reg none [⟨(some 3), none, .mv (.t 0)⟩,
    ⟨(some 4), none, .call 93 [(.t 3), (.c (.int .i64 (0))), (.c (.int .i64 (1000000)))]⟩,
    ⟨(some 2), none, .asn (.t 4)⟩]) (
 .ret))
def r_impl_isCount : Nat × List RV := (5, [.t 2])

theorem c_impl_isCount : cmpS PT PF PA (Try.prog.funcs[94]?) = some (r_impl_isCount.1, r_impl_isCount.2, stripK k_impl_isCount) := by kernel_rfl

theorem h_isCount (a : Int) : CallsF Try.prog 94 [aI a] (aB (inr a 0 1000000)) := by
  refine Prun c_impl_isCount (by simp [r_impl_isCount]) (by simp) ?_
  unfold k_impl_isCount r_impl_isCount
  simp
  refine callG_F (h_impl_inRange _ _ _) (by simp) ?_
  simp
-- 95 loop.example/g00485/impl.ticketsOk
def k_impl_ticketsOk : K :=
 .seq (
  .reg none [⟨(some 1), none, .box 25 10 (.t 0)⟩,
    ⟨(some 2), none, .asn (.c (.bool false))⟩]) (
 .seq (
  .seq (
   .reg none [⟨(some 9), none, .fad 8 (.t 1)⟩,
     ⟨(some 10), none, .ld 1 false (.t 9)⟩,
     ⟨(some 11), none, .len (.t 10)⟩,
     ⟨(some 12), none, .fad 9 (.t 1)⟩,
     ⟨(some 13), none, .ld 1 false (.t 12)⟩,
     ⟨(some 14), none, .len (.t 13)⟩,
     ⟨(some 15), none, .bin .add (.t 11) (.t 14)⟩,
     ⟨(some 16), none, .fad 6 (.t 1)⟩,
     ⟨(some 17), none, .ld 1 false (.t 16)⟩,
     ⟨(some 18), none, .fad 7 (.t 1)⟩,
     ⟨(some 19), none, .ld 1 false (.t 18)⟩,
     ⟨(some 20), none, .bin .sub (.t 17) (.t 19)⟩,
     ⟨(some 21), none, .bin .neq (.t 15) (.t 20)⟩]) (
  .cond (.t 21) (
   .seq (
    .reg none [⟨(some 2), none, .asn (.c (.bool false))⟩]) (
   .ret)) (
   .skip))) (
 .seq (
  .reg none [⟨(some 3), none, .asn (.c (.ar true 3 1 []))⟩]) (
 .seq (
  .seq (
   .reg none [⟨(some 22), none, .fad 8 (.t 1)⟩,
     ⟨(some 23), none, .ld 1 false (.t 22)⟩,
     ⟨(some 24), none, .len (.t 23)⟩,
     ⟨(some 25), none, .mv (.c (.int .i64 (0)))⟩]) (
  .block 0 (
   .loop (some ([1, 3, 23, 24, 25], [1, 3, 1000])) (
    .seq (
     .reg none [⟨(some 26), none, .bin .lss (.t 25) (.t 24)⟩]) (
    .seq (
     .cond (.t 26) (
      .skip) (
      .exit 0)) (
    .seq (
     .block 1 (
      .seq (
       .reg none [⟨(some 27), none, .mv (.t 25)⟩,
         ⟨(some 28), none, .iad 10 (.t 23) (.t 25)⟩,
         ⟨(some 29), none, .ld 10 true (.t 28)⟩,
         ⟨(some 5), none, .alc 133 10 [(.int .i64 (0)), (.int .i64 (0)), (.ar true 3 1 []), (.int .i64 (0)), (.int .i64 (0)), (.int .i64 (0)), (.int .i64 (0)), (.ar true 183 2 []), (.ar true 185 5 []), (.ar true 187 3 [])]⟩,
         ⟨(some 4), none, .asn (.t 27)⟩,
         ⟨none, none, .st 10 false (.t 5) (.t 29)⟩]) (
      .seq (
       .seq (
        .drw none 14 [⟨(some 30), none, .mv (.t 4)⟩,
          ⟨(some 31), none, .bin .gtr (.t 30) (.c (.int .i64 (0)))⟩,
          ⟨(some 32), none, .mv (.t 31)⟩,
          ⟨(some 33), (some (32, true)), .fad 0 (.t 5)⟩,
          ⟨(some 34), (some (32, true)), .ld 1 false (.t 33)⟩,
          ⟨(some 35), (some (32, true)), .fad 8 (.t 1)⟩,
          ⟨(some 36), (some (32, true)), .ld 1 false (.t 35)⟩,
          ⟨(some 37), (some (32, true)), .mv (.t 4)⟩,
          ⟨(some 38), (some (32, true)), .bin .sub (.t 37) (.c (.int .i64 (1)))⟩,
          ⟨(some 39), (some (32, true)), .iad 10 (.t 36) (.t 38)⟩,
          ⟨(some 40), (some (32, true)), .fad 0 (.t 39)⟩,
          ⟨(some 41), (some (32, true)), .ld 1 false (.t 40)⟩,
          ⟨(some 42), (some (32, true)), .bin .leq (.t 34) (.t 41)⟩,
          ⟨(some 43), none, .pick (.t 32) (.t 42) (.c (.bool false))⟩]) (
       .cond (.t 43) (
        .seq (
         .reg none [⟨(some 2), none, .asn (.c (.bool false))⟩]) (
        .ret)) (
        .skip))) (
      .reg none [⟨(some 44), none, .mv (.t 3)⟩,
        ⟨(some 45), none, .fad 0 (.t 5)⟩,
        ⟨(some 46), none, .ld 1 false (.t 45)⟩,
        ⟨(some 47), none, .bls 3 1 false [(.t 46)]⟩,
        ⟨(some 48), none, .app 3 1 8 false (.t 44) (.t 47)⟩,
        ⟨(some 3), none, .asn (.t 48)⟩])))) (
    .reg none [⟨(some 49), none, .bin .add (.t 25) (.c (.int .i64 (1)))⟩,
      ⟨(some 25), none, .mv (.t 49)⟩]))))))) (
 .seq (
  .seq (
   .reg none [⟨(some 50), none, .fad 9 (.t 1)⟩,
     ⟨(some 51), none, .ld 1 false (.t 50)⟩,
     ⟨(some 52), none, .len (.t 51)⟩,
     ⟨(some 53), none, .mv (.c (.int .i64 (0)))⟩]) (
  .block 2 (
   .loop (some ([1, 3, 51, 52, 53], [1, 3, 1000])) (
    .seq (
     .reg none [⟨(some 54), none, .bin .lss (.t 53) (.t 52)⟩]) (
    .seq (
     .cond (.t 54) (
      .skip) (
      .exit 2)) (
    .seq (
     .block 3 (
      .seq (
       .reg none [⟨(some 55), none, .mv (.t 53)⟩,
         ⟨(some 56), none, .iad 3 (.t 51) (.t 53)⟩,
         ⟨(some 57), none, .ld 3 true (.t 56)⟩,
         ⟨(some 7), none, .alc 102 3 [(.int .i64 (0)), (.int .i64 (0)), (.str ⟨#[]⟩)]⟩,
         ⟨(some 6), none, .asn (.t 55)⟩,
         ⟨none, none, .st 3 false (.t 7) (.t 57)⟩]) (
      .seq (
       .seq (
        .drw none 20 [⟨(some 58), none, .mv (.t 6)⟩,
          ⟨(some 59), none, .bin .gtr (.t 58) (.c (.int .i64 (0)))⟩,
          ⟨(some 60), none, .mv (.t 59)⟩,
          ⟨(some 61), (some (60, true)), .fad 0 (.t 7)⟩,
          ⟨(some 62), (some (60, true)), .ld 1 false (.t 61)⟩,
          ⟨(some 63), (some (60, true)), .fad 9 (.t 1)⟩,
          ⟨(some 64), (some (60, true)), .ld 1 false (.t 63)⟩,
          ⟨(some 65), (some (60, true)), .mv (.t 6)⟩,
          ⟨(some 66), (some (60, true)), .bin .sub (.t 65) (.c (.int .i64 (1)))⟩,
          ⟨(some 67), (some (60, true)), .iad 3 (.t 64) (.t 66)⟩,
          ⟨(some 68), (some (60, true)), .fad 0 (.t 67)⟩,
          ⟨(some 69), (some (60, true)), .ld 1 false (.t 68)⟩,
          ⟨(some 70), (some (60, true)), .bin .leq (.t 62) (.t 69)⟩,
          ⟨(some 71), none, .pick (.t 60) (.t 70) (.c (.bool false))⟩,
          ⟨(some 72), none, .mv (.t 71)⟩,
          ⟨(some 73), (some (72, false)), .fad 1 (.t 7)⟩,
          ⟨(some 74), (some (72, false)), .ld 1 false (.t 73)⟩,
          ⟨(some 75), (some (72, false)), .call 90 [(.t 74)]⟩,
          ⟨(some 76), (some (72, false)), .bin .eql (.t 75) (.c (.str ⟨#[]⟩))⟩,
          ⟨(some 77), none, .pick (.t 72) (.c (.bool true)) (.t 76)⟩]) (
       .cond (.t 77) (
        .seq (
         .reg none [⟨(some 2), none, .asn (.c (.bool false))⟩]) (
        .ret)) (
        .skip))) (
      .reg none [⟨(some 78), none, .mv (.t 3)⟩,
        ⟨(some 79), none, .fad 0 (.t 7)⟩,
        ⟨(some 80), none, .ld 1 false (.t 79)⟩,
        ⟨(some 81), none, .bls 3 1 false [(.t 80)]⟩,
        ⟨(some 82), none, .app 3 1 8 false (.t 78) (.t 81)⟩,
        ⟨(some 3), none, .asn (.t 82)⟩])))) (
    .reg none [⟨(some 83), none, .bin .add (.t 53) (.c (.int .i64 (1)))⟩,
      ⟨(some 53), none, .mv (.t 83)⟩]))))))) (
 .seq (
  .seq (
   .reg none [⟨(some 84), none, .fad 7 (.t 1)⟩,
     ⟨(some 85), none, .ld 1 false (.t 84)⟩,
     ⟨(some 8), none, .asn (.t 85)⟩]) (
  .block 4 (
   .loop (some ([1, 3, 8], [1, 3, 8, 1000])) (
    .seq (
     .seq (
      .reg none [⟨(some 86), none, .mv (.t 8)⟩,
        ⟨(some 87), none, .fad 6 (.t 1)⟩,
        ⟨(some 88), none, .ld 1 false (.t 87)⟩,
        ⟨(some 89), none, .bin .lss (.t 86) (.t 88)⟩]) (
     .cond (.t 89) (
      .skip) (
      .exit 4))) (
    .seq (
     .block 5 (
      .seq (
       .reg none [⟨(some 92), none, .mv (.t 3)⟩,
         ⟨(some 93), none, .mv (.t 8)⟩,
         ⟨(some 94), none, .call 142 [(.t 92), (.t 93)]⟩,
         ⟨(some 95), none, .not (.t 94)⟩]) (
      .cond (.t 95) (
       .seq (
        .reg none [⟨(some 2), none, .asn (.c (.bool false))⟩]) (
       .ret)) (
       .skip)))) (
    .reg none [⟨(some 90), none, .mv (.t 8)⟩,
      ⟨(some 91), none, .bin .add (.t 90) (.c (.int .i64 (1)))⟩,
      ⟨(some 8), none, .asn (.t 91)⟩])))))) (
 .seq (
  .reg none [⟨(some 2), none, .asn (.c (.bool true))⟩]) (
 .ret)))))))
def r_impl_ticketsOk : Nat × List RV := (96, [.t 2])

theorem c_impl_ticketsOk : cmpS PT PF PA (Try.prog.funcs[95]?) = some (r_impl_ticketsOk.1, r_impl_ticketsOk.2, stripK k_impl_ticketsOk) := by kernel_rfl

set_option maxRecDepth 100000 in
theorem h_ticketsOk (t : TTenant) (hq : t.queue.length ≤ 4) (ho : t.out.length < 2 ^ 40) (b7 : 0 ≤ t.due ∧ t.due ≤ 1000000) (b8 : 0 ≤ t.next ∧ t.next ≤ 1000000) : CallsF Try.prog 95 [.agg (sTenant t)] (aB (ticketsOk t)) := by
  refine Prun c_impl_ticketsOk (by simp [r_impl_ticketsOk]) (by simp) ?_
  unfold k_impl_ticketsOk r_impl_ticketsOk
  have wn : ∀ {n : Int}, -4000000 ≤ n → n ≤ 4000000 → IntKind.i64.wrap n = n := fun h1 h2 => wrapI (by omega) (by omega)
  have wq : IntKind.i64.wrap ((t.queue.length : Int) + t.out.length) = t.queue.length + t.out.length := wrapI (by omega) (by omega)
  have wd : IntKind.i64.wrap (t.next - t.due) = t.next - t.due := wn (by omega) (by omega)
  simp [sTenant, wq, wd]
  by_cases g5 : (t.queue.length : Int) + t.out.length = t.next - t.due
  case neg => simp [g5, ticketsOk]
  simp [g5]
  refine awp_loop (fun n σ => ∃ i : Nat, i ≤ t.queue.length ∧ n = t.queue.length - i ∧ allN (srtAt (qT t)) i = true ∧ σ = ⟨[(1, .one (.pt 10 1 [] 0 0)), (3, .one (.vw 3 1 3 [] 0 i)), (23, .one (.ar false 0 10 (t.queue.map sJob))), (24, aI t.queue.length), (25, aI i)], [(1, ⟨25, 10, [sTenant t]⟩), (3, ⟨3, 1, ((qT t).take i).map rI⟩)]⟩) t.queue.length ⟨0, by simp [sTenant, allN]⟩ ?_
  rintro n σ ⟨i, hi, rfl, ha, rfl⟩
  by_cases h : i < t.queue.length
  · have hqi : (qT t).getD i 0 = t.queue[i].ticket := by simp [qT, List.getD, h]
    have w1 : IntKind.i64.wrap ((i : Int) + 1) = i + 1 := wrapI (by omega) (by omega)
    have hff : srtAt (qT t) i = false → ticketsOk t = false := fun hp => by
      have := allN_ff h hp
      unfold ticketsOk
      rw [this]; simp only [Bool.and_false, Bool.false_and]
    have hst : srtAt (qT t) i = true → allN (srtAt (qT t)) (i + 1) = true := fun hp => by rw [allN_step, ha, hp]; rfl
    have hLn : ((qT t).take i).length = i := by simp [qT]; omega
    have hLs : ((qT t).take (i + 1)) = (qT t).take i ++ [t.queue[i].ticket] := by
      rw [List.take_succ_eq_append_getElem (by simpa [qT] using h)]; simp [qT]
    have hbN : i + 1 ≤ 4294967296 := by omega
    generalize (qT t).take i = L at *
    have hT : List.take i (L.map rI) = L.map rI := List.take_of_length_le (by simp [hLn])
    by_cases h0 : i = 0
    · have hsr : srtAt (qT t) i = true := by simp [srtAt, h0]
      have h0n : ¬ 0 < i := by omega
      simp [sTenant, h, sJob, h0n, hbN, hLn, hT]
      refine ⟨t.queue.length - (i + 1), by omega, i + 1, by omega, rfl, hst hsr, ?_⟩
      simp [w1, hT, sTenant]
      rw [← List.map_take, hLs]
      simp [rI]
    · have h1 : i - 1 < t.queue.length := by omega
      have h0'' : 0 < i := by omega
      have w2 : IntKind.i64.wrap ((i : Int) - 1) = ((i - 1 : Nat) : Int) := by rw [wrapI (by omega) (by omega)]; omega
      have hqi1 : (qT t).getD (i - 1) 0 = t.queue[i - 1].ticket := by simp [qT, List.getD, h1]
      simp [sTenant, h, sJob, h0'', w2, h1]
      by_cases c0 : t.queue[i].ticket ≤ t.queue[i - 1].ticket
      · have hsr : srtAt (qT t) i = false := by simp only [srtAt, hqi, hqi1]; simp [h0]; omega
        simp [c0, hff hsr]
      have hsr : srtAt (qT t) i = true := by simp only [srtAt, hqi, hqi1]; simp; omega
      simp [c0, hbN, hLn, hT]
      refine ⟨t.queue.length - (i + 1), by omega, i + 1, by omega, rfl, hst hsr, ?_⟩
      simp [w1, hT, sTenant]
      rw [← List.map_take, hLs]
      simp [rI]
  have : i = t.queue.length := by omega
  subst this
  have ha1 := ha
  clear ha h hi
  have hqq : (qT t).take t.queue.length = qT t := List.take_of_length_le (by simp [qT])
  simp [sTenant, hqq]
  refine awp_loop (fun n σ => ∃ i : Nat, i ≤ t.out.length ∧ n = t.out.length - i ∧ allN (p3T t) i = true ∧ σ = ⟨[(1, .one (.pt 10 1 [] 0 0)), (3, .one (.vw 3 1 3 [] 0 (t.queue.length + i))), (51, .one (.ar false 0 3 (t.out.map sOutcome))), (52, aI t.out.length), (53, aI i)], [(1, ⟨25, 10, [sTenant t]⟩), (3, ⟨3, 1, (qT t ++ (oT t).take i).map rI⟩)]⟩) t.out.length ⟨0, by simp [sTenant, allN]⟩ ?_
  rintro n σ ⟨i, hi, rfl, ha, rfl⟩
  by_cases h : i < t.out.length
  · have hqi : (oT t).getD i 0 = t.out[i].ticket := by simp [oT, List.getD, h]
    have hqj : t.out.getD i default = t.out[i] := by simp [List.getD, h]
    have w1 : IntKind.i64.wrap ((i : Int) + 1) = i + 1 := wrapI (by omega) (by omega)
    have hff : p3T t i = false → ticketsOk t = false := fun hp => by
      have := allN_ff h hp
      unfold ticketsOk
      rw [show (fun i => srtAt (oT t) i && inr (t.out.getD i default).code 0 6) = p3T t from rfl, this]; simp only [Bool.and_false, Bool.false_and]
    have hst : p3T t i = true → allN (p3T t) (i + 1) = true := fun hp => by rw [allN_step, ha, hp]; rfl
    have hLn : (qT t ++ (oT t).take i).length = t.queue.length + i := by simp [qT, oT]; omega
    have hLs : qT t ++ (oT t).take (i + 1) = (qT t ++ (oT t).take i) ++ [t.out[i].ticket] := by
      rw [List.take_succ_eq_append_getElem (by simpa [oT] using h), List.append_assoc]; simp [oT]
    have hbN : t.queue.length + i + 1 ≤ 4294967296 := by omega
    generalize qT t ++ (oT t).take i = L at *
    have hT : List.take (t.queue.length + i) (L.map rI) = L.map rI := List.take_of_length_le (by simp [hLn])
    by_cases h0 : i = 0
    · have hsr : srtAt (oT t) i = true := by simp [srtAt, h0]
      have h0n : ¬ 0 < i := by omega
      simp [sTenant, h, sOutcome, h0n, hbN, hLn, hT]
      refine ⟨_, by simp, h_impl_CodeText _, ?_⟩
      cases d1 : inr t.out[i].code 0 6
      · have := hff (by unfold p3T; rw [hqj, d1]; simp only [Bool.and_false])
        simp [aS, codeText_no d1, this]
      · have hp : p3T t i = true := by unfold p3T; rw [hqj, d1, hsr]; rfl
        simp [aS, codeText_ne d1, hbN, hLn, hT]
        refine ⟨t.out.length - (i + 1), by omega, i + 1, by omega, rfl, hst hp, ?_⟩
        simp [w1, hT, sTenant, Nat.add_assoc]
        rw [← List.map_take, ← List.map_append, hLs]
        simp [rI]
    · have h1 : i - 1 < t.out.length := by omega
      have h0'' : 0 < i := by omega
      have w2 : IntKind.i64.wrap ((i : Int) - 1) = ((i - 1 : Nat) : Int) := by rw [wrapI (by omega) (by omega)]; omega
      have hqi1 : (oT t).getD (i - 1) 0 = t.out[i - 1].ticket := by simp [oT, List.getD, h1]
      simp [sTenant, h, sOutcome, h0'', w2, h1]
      by_cases c0 : t.out[i].ticket ≤ t.out[i - 1].ticket
      · have hsr : srtAt (oT t) i = false := by simp only [srtAt, hqi, hqi1]; simp [h0]; omega
        have := hff (by unfold p3T; rw [hsr]; rfl)
        simp [c0, this]
      have hsr : srtAt (oT t) i = true := by simp only [srtAt, hqi, hqi1]; simp; omega
      simp [c0, hbN, hLn, hT]
      refine ⟨_, by simp, h_impl_CodeText _, ?_⟩
      cases d1 : inr t.out[i].code 0 6
      · have := hff (by unfold p3T; rw [hqj, d1]; simp only [Bool.and_false])
        simp [aS, codeText_no d1, this]
      · have hp : p3T t i = true := by unfold p3T; rw [hqj, d1, hsr]; rfl
        simp [aS, codeText_ne d1, hbN, hLn, hT]
        refine ⟨t.out.length - (i + 1), by omega, i + 1, by omega, rfl, hst hp, ?_⟩
        simp [w1, hT, sTenant, Nat.add_assoc]
        rw [← List.map_take, ← List.map_append, hLs]
        simp [rI]
  have : i = t.out.length := by omega
  subst this
  have ha2 := ha
  clear ha h hi
  have hoo : (oT t).take t.out.length = oT t := List.take_of_length_le (by simp [oT])
  rw [hoo]
  obtain ⟨N, hN⟩ : ∃ N : Nat, (N : Int) = t.next - t.due := ⟨(t.next - t.due).toNat, by omega⟩
  have hN2 : (t.next - t.due).toNat = N := by omega
  have hl : (qT t ++ oT t).length = t.queue.length + t.out.length := by simp [qT, oT]
  have hp4 : (fun k : Nat => decide (t.due + (k : Int) ∈ qT t ++ oT t)) = p4T t := rfl
  have hTT : List.take (t.queue.length + t.out.length) ((qT t ++ oT t).map rI) = (qT t ++ oT t).map rI := List.take_of_length_le (by rw [List.length_map, hl]; exact Nat.le_refl _)
  have hct : ∀ x, CallsF Try.prog 142 [.one (.ar false 0 1 ((qT t ++ oT t).map rI)), aI x] (aB (decide (x ∈ qT t ++ oT t))) := fun x => h_slicesContains _ x (by rw [hl]; omega)
  have hdef : ∀ k : Nat, p4T t k = decide (t.due + (k : Int) ∈ qT t ++ oT t) := fun _ => rfl
  have hfN : ∀ {i}, i < N → p4T t i = false → ticketsOk t = false := fun h hp => by
    have := allN_ff h hp
    unfold ticketsOk
    rw [hN2, hp4, this]; simp only [Bool.and_false]
  have hfin0 : allN (p4T t) N = true → ticketsOk t = true := fun ha => by
    unfold ticketsOk
    rw [hN2, hp4, ha, ha1, show (fun i => srtAt (oT t) i && inr (t.out.getD i default).code 0 6) = p3T t from rfl, ha2]
    simp [g5]
  clear hp4
  generalize qT t ++ oT t = L at *
  simp [sTenant]
  refine awp_loop (fun n σ => ∃ i : Nat, i ≤ N ∧ n = N - i ∧ allN (p4T t) i = true ∧ σ = ⟨[(1, .one (.pt 10 1 [] 0 0)), (3, .one (.vw 3 1 3 [] 0 (t.queue.length + t.out.length))), (8, aI (t.due + i))], [(1, ⟨25, 10, [sTenant t]⟩), (3, ⟨3, 1, L.map rI⟩)]⟩) N ⟨0, by simp [sTenant, allN]⟩ ?_
  rintro n σ ⟨i, hi, rfl, ha, rfl⟩
  by_cases h : i < N
  · have h' : t.due + (i : Int) < t.next := by omega
    have w1 : IntKind.i64.wrap (t.due + (i : Int) + 1) = t.due + (i + 1 : Nat) := by rw [wn (by omega) (by omega)]; omega
    simp [sTenant, h', hTT, hl, -Int.natCast_add]
    refine callG_F (hct _) (by simp) ?_
    cases c : decide (t.due + (i : Int) ∈ L)
    · have := hfN h (by rw [hdef, c])
      simp [this]
    · simp
      refine ⟨N - (i + 1), by omega, i + 1, by omega, rfl, by rw [allN_step, ha, hdef, c]; rfl, ?_⟩
      rw [w1]
  have : i = N := by omega
  subst this
  have h' : ¬ (t.due + (i : Int) < t.next) := by omega
  have hfin := hfin0 ha
  simp [sTenant, h', hfin]
end Go.Am
-- TenantOkI
namespace Go.Am
open Go.Proofs
set_option maxHeartbeats 4000000
set_option maxRecDepth 100000
-- 48 loop.example/g00485/impl.TenantOk
def k_impl_TenantOk : K :=
 .seq (
  .reg none [⟨(some 1), none, .box 25 10 (.t 0)⟩,
    ⟨(some 2), none, .asn (.c (.bool false))⟩]) (
 .seq (
  .seq (
   .reg none [⟨(some 5), none, .fad 0 (.t 1)⟩,
     ⟨(some 6), none, .ld 1 false (.t 5)⟩,
     ⟨(some 7), none, .call 93 [(.t 6), (.c (.int .i64 (1))), (.c (.int .i64 (20)))]⟩,
     ⟨(some 8), none, .not (.t 7)⟩,
     ⟨(some 9), none, .mv (.t 8)⟩,
     ⟨(some 10), (some (9, false)), .fad 1 (.t 1)⟩,
     ⟨(some 11), (some (9, false)), .ld 1 false (.t 10)⟩,
     ⟨(some 12), (some (9, false)), .call 93 [(.t 11), (.c (.int .i64 (0))), (.c (.int .i64 (2)))]⟩,
     ⟨(some 13), (some (9, false)), .not (.t 12)⟩,
     ⟨(some 14), none, .pick (.t 9) (.c (.bool true)) (.t 13)⟩,
     ⟨(some 15), none, .mv (.t 14)⟩,
     ⟨(some 16), (some (15, false)), .fad 2 (.t 1)⟩,
     ⟨(some 17), (some (15, false)), .ld 1 false (.t 16)⟩,
     ⟨(some 18), (some (15, false)), .call 93 [(.t 17), (.c (.int .i64 (0))), (.c (.int .i64 (5000)))]⟩,
     ⟨(some 19), (some (15, false)), .not (.t 18)⟩,
     ⟨(some 20), none, .pick (.t 15) (.c (.bool true)) (.t 19)⟩,
     ⟨(some 21), none, .mv (.t 20)⟩,
     ⟨(some 22), (some (21, false)), .fad 3 (.t 1)⟩,
     ⟨(some 23), (some (21, false)), .ld 1 false (.t 22)⟩,
     ⟨(some 24), (some (21, false)), .fad 2 (.t 1)⟩,
     ⟨(some 25), (some (21, false)), .ld 1 false (.t 24)⟩,
     ⟨(some 26), (some (21, false)), .call 93 [(.t 23), (.c (.int .i64 (0))), (.t 25)]⟩,
     ⟨(some 27), (some (21, false)), .not (.t 26)⟩,
     ⟨(some 28), none, .pick (.t 21) (.c (.bool true)) (.t 27)⟩]) (
  .cond (.t 28) (
   .seq (
    .reg none [⟨(some 2), none, .asn (.c (.bool false))⟩]) (
   .ret)) (
   .skip))) (
 .seq (
  .seq (
   .reg none [⟨(some 29), none, .fad 4 (.t 1)⟩,
     ⟨(some 30), none, .ld 1 false (.t 29)⟩,
     ⟨(some 31), none, .call 94 [(.t 30)]⟩,
     ⟨(some 32), none, .not (.t 31)⟩,
     ⟨(some 33), none, .mv (.t 32)⟩,
     ⟨(some 34), (some (33, false)), .fad 5 (.t 1)⟩,
     ⟨(some 35), (some (33, false)), .ld 1 false (.t 34)⟩,
     ⟨(some 36), (some (33, false)), .call 94 [(.t 35)]⟩,
     ⟨(some 37), (some (33, false)), .not (.t 36)⟩,
     ⟨(some 38), none, .pick (.t 33) (.c (.bool true)) (.t 37)⟩,
     ⟨(some 39), none, .mv (.t 38)⟩,
     ⟨(some 40), (some (39, false)), .fad 7 (.t 1)⟩,
     ⟨(some 41), (some (39, false)), .ld 1 false (.t 40)⟩,
     ⟨(some 42), (some (39, false)), .call 94 [(.t 41)]⟩,
     ⟨(some 43), (some (39, false)), .not (.t 42)⟩,
     ⟨(some 44), none, .pick (.t 39) (.c (.bool true)) (.t 43)⟩,
     ⟨(some 45), none, .mv (.t 44)⟩,
     ⟨(some 46), (some (45, false)), .fad 6 (.t 1)⟩,
     ⟨(some 47), (some (45, false)), .ld 1 false (.t 46)⟩,
     ⟨(some 48), (some (45, false)), .call 94 [(.t 47)]⟩,
     ⟨(some 49), (some (45, false)), .not (.t 48)⟩,
     ⟨(some 50), none, .pick (.t 45) (.c (.bool true)) (.t 49)⟩,
     ⟨(some 51), none, .mv (.t 50)⟩,
     ⟨(some 52), (some (51, false)), .fad 6 (.t 1)⟩,
     ⟨(some 53), (some (51, false)), .ld 1 false (.t 52)⟩,
     ⟨(some 54), (some (51, false)), .fad 7 (.t 1)⟩,
     ⟨(some 55), (some (51, false)), .ld 1 false (.t 54)⟩,
     ⟨(some 56), (some (51, false)), .bin .sub (.t 53) (.t 55)⟩,
     ⟨(some 57), (some (51, false)), .call 93 [(.t 56), (.c (.int .i64 (0))), (.c (.int .i64 (6)))]⟩,
     ⟨(some 58), (some (51, false)), .not (.t 57)⟩,
     ⟨(some 59), none, .pick (.t 51) (.c (.bool true)) (.t 58)⟩]) (
  .cond (.t 59) (
   .seq (
    .reg none [⟨(some 2), none, .asn (.c (.bool false))⟩]) (
   .ret)) (
   .skip))) (
 .seq (
  .seq (
   .reg none [⟨(some 60), none, .fad 8 (.t 1)⟩,
     ⟨(some 61), none, .ld 1 false (.t 60)⟩,
     ⟨(some 62), none, .len (.t 61)⟩,
     ⟨(some 63), none, .bin .eql (.t 62) (.c (.int .i64 (0)))⟩,
     ⟨(some 64), none, .mv (.t 63)⟩,
     ⟨(some 65), (some (64, true)), .fad 4 (.t 1)⟩,
     ⟨(some 66), (some (64, true)), .ld 1 false (.t 65)⟩,
     ⟨(some 67), (some (64, true)), .bin .neq (.t 66) (.c (.int .i64 (0)))⟩,
     ⟨(some 68), none, .pick (.t 64) (.t 67) (.c (.bool false))⟩,
     ⟨(some 69), none, .mv (.t 68)⟩,
     ⟨(some 70), (some (69, false)), .fad 8 (.t 1)⟩,
     ⟨(some 71), (some (69, false)), .ld 1 false (.t 70)⟩,
     ⟨(some 72), (some (69, false)), .len (.t 71)⟩,
     ⟨(some 73), (some (69, false)), .bin .gtr (.t 72) (.c (.int .i64 (4)))⟩,
     ⟨(some 74), none, .pick (.t 69) (.c (.bool true)) (.t 73)⟩,
     ⟨(some 75), none, .mv (.t 74)⟩,
     ⟨(some 76), (some (75, false)), .ld 10 true (.t 1)⟩,
     ⟨(some 77), (some (75, false)), .call 95 [(.t 76)]⟩,
     ⟨(some 78), (some (75, false)), .not (.t 77)⟩,
     ⟨(some 79), none, .pick (.t 75) (.c (.bool true)) (.t 78)⟩]) (
  .cond (.t 79) (
   .seq (
    .reg none [⟨(some 2), none, .asn (.c (.bool false))⟩]) (
   .ret)) (
   .skip))) (
 .seq (
  .seq (
   .reg none [⟨(some 80), none, .fad 8 (.t 1)⟩,
     ⟨(some 81), none, .ld 1 false (.t 80)⟩,
     ⟨(some 82), none, .len (.t 81)⟩,
     ⟨(some 83), none, .mv (.c (.int .i64 (0)))⟩]) (
  .block 0 (
   .loop (some ([81, 82, 83], [1, 1000])) (
    .seq (
     .reg none [⟨(some 84), none, .bin .lss (.t 83) (.t 82)⟩]) (
    .seq (
     .cond (.t 84) (
      .skip) (
      .exit 0)) (
    .seq (
     .block 1 (
      .seq (
       .reg none [⟨(some 85), none, .iad 10 (.t 81) (.t 83)⟩,
         ⟨(some 86), none, .ld 10 true (.t 85)⟩,
         ⟨(some 4), none, .alc 133 10 [(.int .i64 (0)), (.int .i64 (0)), (.ar true 3 1 []), (.int .i64 (0)), (.int .i64 (0)), (.int .i64 (0)), (.int .i64 (0)), (.ar true 183 2 []), (.ar true 185 5 []), (.ar true 187 3 [])]⟩,
         ⟨none, none, .st 10 false (.t 4) (.t 86)⟩]) (
      .seq (
       .reg none [⟨(some 87), none, .fad 2 (.t 4)⟩,
         ⟨(some 88), none, .ld 1 false (.t 87)⟩,
         ⟨(some 89), none, .call 96 [(.t 88)]⟩,
         ⟨(some 90), none, .not (.t 89)⟩,
         ⟨(some 91), none, .mv (.t 90)⟩,
         ⟨(some 92), (some (91, false)), .fad 1 (.t 4)⟩,
         ⟨(some 93), (some (91, false)), .ld 1 false (.t 92)⟩,
         ⟨(some 94), (some (91, false)), .call 93 [(.t 93), (.c (.int .i64 (0))), (.c (.int .i64 (3)))]⟩,
         ⟨(some 95), (some (91, false)), .not (.t 94)⟩,
         ⟨(some 96), none, .pick (.t 91) (.c (.bool true)) (.t 95)⟩,
         ⟨(some 97), none, .mv (.t 96)⟩,
         ⟨(some 98), (some (97, false)), .fad 3 (.t 4)⟩,
         ⟨(some 99), (some (97, false)), .fad 0 (.t 98)⟩,
         ⟨(some 100), (some (97, false)), .ld 1 false (.t 99)⟩,
         ⟨(some 101), (some (97, false)), .bin .neq (.t 100) (.c (.int .i64 (0)))⟩,
         ⟨(some 102), none, .pick (.t 97) (.c (.bool true)) (.t 101)⟩]) (
      .cond (.t 102) (
       .seq (
        .reg none [⟨(some 2), none, .asn (.c (.bool false))⟩]) (
       .ret)) (
       .skip))))) (
    .reg none [⟨(some 103), none, .bin .add (.t 83) (.c (.int .i64 (1)))⟩,
      ⟨(some 83), none, .mv (.t 103)⟩]))))))) (
 .seq (
  .reg none [⟨(some 2), none, .asn (.c (.bool true))⟩]) (
 .ret))))))
def r_impl_TenantOk : Nat × List RV := (104, [.t 2])

theorem c_impl_TenantOk : cmpS PT PF PA (Try.prog.funcs[48]?) = some (r_impl_TenantOk.1, r_impl_TenantOk.2, stripK k_impl_TenantOk) := by kernel_rfl

set_option maxRecDepth 100000 in
theorem h_impl_TenantOk (t : TTenant) (hl : lTenant t) (hw : wTenant t < 2 ^ 40) : CallsF Try.prog 48 [.agg (sTenant t)] (aB (tenantOk t)) := by
  refine Prun c_impl_TenantOk (by simp [r_impl_TenantOk]) (by simp) ?_
  unfold k_impl_TenantOk r_impl_TenantOk
  have hlq := wL_len wJob t.queue
  have hlo := wL_len wOutcome t.out
  simp only [wTenant] at hw
  have wn : ∀ {n : Int}, -4000000 ≤ n → n ≤ 4000000 → IntKind.i64.wrap n = n := fun h1 h2 => wrapI (by omega) (by omega)
  simp [sTenant]
  refine callG_F (h_impl_inRange _ _ _) (by simp) ?_
  cases c1 : inr t.quantum 1 20
  · simp [c1, tenantOk, hdQ]
  simp [c1]
  refine callG_F (h_impl_inRange _ _ _) (by simp) ?_
  cases c2 : inr t.cls 0 2
  · simp [c2, tenantOk, hdQ]
  simp [c2]
  refine callG_F (h_impl_inRange _ _ _) (by simp) ?_
  cases c3 : inr t.budget 0 5000
  · simp [c3, tenantOk, hdQ]
  simp [c3]
  refine callG_F (h_impl_inRange _ _ _) (by simp) ?_
  cases c4 : inr t.used 0 t.budget
  · simp [c4, tenantOk, hdQ]
  simp [c4]
  refine callG_F (h_isCount _) (by simp) ?_
  cases c5 : inr t.wait 0 1000000
  · simp [c5, tenantOk, hdC]
  simp [c5]
  refine callG_F (h_isCount _) (by simp) ?_
  cases c6 : inr t.turns 0 1000000
  · simp [c6, tenantOk, hdC]
  simp [c6]
  refine callG_F (h_isCount _) (by simp) ?_
  cases c7 : inr t.due 0 1000000
  · simp [c7, tenantOk, hdC]
  simp [c7]
  refine callG_F (h_isCount _) (by simp) ?_
  cases c8 : inr t.next 0 1000000
  · simp [c8, tenantOk, hdC]
  have b7 := inr_iff.1 c7
  have b8 := inr_iff.1 c8
  have wd : IntKind.i64.wrap (t.next - t.due) = t.next - t.due := wn (by omega) (by omega)
  simp [c8, wd]
  refine callG_F (h_impl_inRange _ _ _) (by simp) ?_
  cases c9 : inr (t.next - t.due) 0 6
  · simp [c9, tenantOk, hdC]
  simp [c9]
  by_cases g1 : t.queue.length = 0
  · have g3 : t.queue = [] := List.eq_nil_of_length_eq_zero g1
    by_cases g2 : t.wait = 0
    · have g1' : (t.queue.length : Int) = 0 := by omega
      have g3' : (t.queue = []) = True := eq_true g3
      have g2' : (t.wait = 0) = True := eq_true g2
      simp [g3', g2']
      by_cases g4 : (4 : Int) < t.queue.length
      · have g4' : ¬ t.queue.length ≤ 4 := by omega
        simp [g4, g4', tenantOk]
      have g4' : t.queue.length ≤ 4 := by omega
      simp [g4]
      refine callG_F (h_ticketsOk t g4' (by omega) b7 b8) (by simp [sTenant]) ?_
      cases c10 : ticketsOk t
      · simp [c10, tenantOk]
      simp
      refine awp_loop (fun n σ => ∃ i : Nat, i ≤ t.queue.length ∧ n = t.queue.length - i ∧ allTo jobOk t.queue i = true ∧ σ = ⟨[(81, .one (.ar false 0 10 (t.queue.map sJob))), (82, aI t.queue.length), (83, aI i)], [(1, ⟨25, 10, [sTenant t]⟩)]⟩) t.queue.length ⟨0, by simp [sTenant, allTo_zero]⟩ ?_
      rintro n σ ⟨i, hi, rfl, ha, rfl⟩
      by_cases h : i < t.queue.length
      · have w1 : IntKind.i64.wrap ((i : Int) + 1) = i + 1 := wrapI (by omega) (by omega)
        have hff : jobOk t.queue[i] = false → tenantOk t = false := fun hp => by
          have := all_ff h hp
          unfold tenantOk
          rw [this]; simp only [Bool.and_false]
        have hst : jobOk t.queue[i] = true → allTo jobOk t.queue (i + 1) = true := fun hp => by rw [allTo_step h, ha, hp]; rfl
        have hji : (t.queue[i].input).length < 2 ^ 63 := ((hl.1.2 i h).1).1
        simp [h, sJob]
        refine callG_F (h_impl_InputOk _ hji) (by simp) ?_
        cases d1 : inputOk t.queue[i].input
        · have := hff (by rw [jobOk, d1]; simp only [Bool.and_false, Bool.false_and])
          simp [this]
        simp
        refine callG_F (h_impl_inRange _ _ _) (by simp) ?_
        cases d2 : inr t.queue[i].gram 0 3
        · have := hff (by rw [jobOk, d2]; simp only [Bool.and_false, Bool.false_and])
          simp [this]
        simp
        by_cases d3 : t.queue[i].run.code = 0
        · have hp : jobOk t.queue[i] = true := by rw [jobOk, d1, d2, d3]; rfl
          simp [d3]
          refine ⟨t.queue.length - (i + 1), by omega, i + 1, by omega, rfl, hst hp, ?_⟩
          simp [w1, sTenant]
        · have := hff (by rw [jobOk]; simp [d3])
          simp [d3, this]
      have : i = t.queue.length := by omega
      subst this
      rw [allTo_all] at ha
      have hfin : tenantOk t = true := by
        unfold tenantOk
        rw [ha, c10]
        simp [hdQ, hdC, c1, c2, c3, c4, c5, c6, c7, c8, c9, g4', g2']
      simp [sTenant, hfin]
    · have g1' : (t.queue.length : Int) = 0 := by omega
      simp [g3, g2, tenantOk]
  · have g1' : ¬ (t.queue.length : Int) = 0 := by omega
    have g3' : (t.queue = []) = False := eq_false (fun h => g1 (by rw [h]; rfl))
    simp [g3']
    by_cases g4 : (4 : Int) < t.queue.length
    · have g4' : ¬ t.queue.length ≤ 4 := by omega
      simp [g4, g4', tenantOk]
    have g4' : t.queue.length ≤ 4 := by omega
    simp [g4]
    refine callG_F (h_ticketsOk t g4' (by omega) b7 b8) (by simp [sTenant]) ?_
    cases c10 : ticketsOk t
    · simp [c10, tenantOk]
    simp
    refine awp_loop (fun n σ => ∃ i : Nat, i ≤ t.queue.length ∧ n = t.queue.length - i ∧ allTo jobOk t.queue i = true ∧ σ = ⟨[(81, .one (.ar false 0 10 (t.queue.map sJob))), (82, aI t.queue.length), (83, aI i)], [(1, ⟨25, 10, [sTenant t]⟩)]⟩) t.queue.length ⟨0, by simp [sTenant, allTo_zero]⟩ ?_
    rintro n σ ⟨i, hi, rfl, ha, rfl⟩
    by_cases h : i < t.queue.length
    · have w1 : IntKind.i64.wrap ((i : Int) + 1) = i + 1 := wrapI (by omega) (by omega)
      have hff : jobOk t.queue[i] = false → tenantOk t = false := fun hp => by
        have := all_ff h hp
        unfold tenantOk
        rw [this]; simp only [Bool.and_false]
      have hst : jobOk t.queue[i] = true → allTo jobOk t.queue (i + 1) = true := fun hp => by rw [allTo_step h, ha, hp]; rfl
      have hji : (t.queue[i].input).length < 2 ^ 63 := ((hl.1.2 i h).1).1
      simp [h, sJob]
      refine callG_F (h_impl_InputOk _ hji) (by simp) ?_
      cases d1 : inputOk t.queue[i].input
      · have := hff (by rw [jobOk, d1]; simp only [Bool.and_false, Bool.false_and])
        simp [this]
      simp
      refine callG_F (h_impl_inRange _ _ _) (by simp) ?_
      cases d2 : inr t.queue[i].gram 0 3
      · have := hff (by rw [jobOk, d2]; simp only [Bool.and_false, Bool.false_and])
        simp [this]
      simp
      by_cases d3 : t.queue[i].run.code = 0
      · have hp : jobOk t.queue[i] = true := by rw [jobOk, d1, d2, d3]; rfl
        simp [d3]
        refine ⟨t.queue.length - (i + 1), by omega, i + 1, by omega, rfl, hst hp, ?_⟩
        simp [w1, sTenant]
      · have := hff (by rw [jobOk]; simp [d3])
        simp [d3, this]
    have : i = t.queue.length := by omega
    subst this
    rw [allTo_all] at ha
    have hfin : tenantOk t = true := by
      unfold tenantOk
      rw [ha, c10]
      simp [hdQ, hdC, c1, c2, c3, c4, c5, c6, c7, c8, c9, g4', g1]
    simp [sTenant, hfin]
end Go.Am
-- TenantNew
namespace Go.Am
open Go.Proofs
set_option maxHeartbeats 4000000
set_option maxRecDepth 100000
def tenant0 (q c b : Int) : TTenant := ⟨q, c, b, 0, 0, 0, 0, 0, [], []⟩
def tenantNew (q c b : Int) : TTenant := if tenantOk (tenant0 q c b) then tenant0 q c b else ⟨0, 0, 0, 0, 0, 0, 0, 0, [], []⟩
-- 10 loop.example/g00485/spec.TenantNew
def k_spec_TenantNew : K :=
 .seq (
  .reg none [⟨(some 6), none, .alc 25 10 [(.int .i64 (0)), (.int .i64 (0)), (.int .i64 (0)), (.int .i64 (0)), (.int .i64 (0)), (.int .i64 (0)), (.int .i64 (0)), (.int .i64 (0)), (.ar true 133 10 []), (.ar true 102 3 [])]⟩,
    ⟨(some 7), none, .asn (.c (.bool false))⟩]) (
 .seq (
  .reg none [⟨(some 9), none, .mv (.t 0)⟩,
    ⟨(some 10), none, .mv (.t 1)⟩,
    ⟨(some 11), none, .mv (.t 2)⟩,
    ⟨(some 12), none, .bld false [(.int .i64 (0)), (.int .i64 (0)), (.int .i64 (0)), (.int .i64 (0)), (.int .i64 (0)), (.int .i64 (0)), (.int .i64 (0)), (.int .i64 (0)), (.ar true 133 10 []), (.ar true 102 3 [])] [(0, 1, (.t 9)), (1, 1, (.t 10)), (2, 1, (.t 11))]⟩,
    ⟨(some 8), none, .alc 25 10 [(.int .i64 (0)), (.int .i64 (0)), (.int .i64 (0)), (.int .i64 (0)), (.int .i64 (0)), (.int .i64 (0)), (.int .i64 (0)), (.int .i64 (0)), (.ar true 133 10 []), (.ar true 102 3 [])]⟩,
    ⟨none, none, .st 10 false (.t 8) (.t 12)⟩]) (
 .seq (
  .seq (
   .reg none [⟨(some 13), none, .ld 10 true (.t 8)⟩,
     ⟨(some 14), none, .call 47 [(.t 13)]⟩,
     ⟨(some 15), none, .not (.t 14)⟩]) (
  .cond (.t 15) (
   .seq (
    .reg none [⟨(some 16), none, .bld false [(.int .i64 (0)), (.int .i64 (0)), (.int .i64 (0)), (.int .i64 (0)), (.int .i64 (0)), (.int .i64 (0)), (.int .i64 (0)), (.int .i64 (0)), (.ar true 133 10 []), (.ar true 102 3 [])] []⟩,
      ⟨none, none, .st 10 false (.t 6) (.t 16)⟩,
      ⟨(some 7), none, .asn (.c (.bool false))⟩]) (
   .ret)) (
   .skip))) (
 .seq (
  .reg none [⟨(some 17), none, .ld 10 true (.t 8)⟩,
    ⟨none, none, .st 10 false (.t 6) (.t 17)⟩,
    ⟨(some 7), none, .asn (.c (.bool true))⟩]) (
 .ret))))
def r_spec_TenantNew : Nat × List RV := (18, [.c 6 10 true, .t 7])

theorem c_spec_TenantNew : cmpS PT PF PA (Try.prog.funcs[10]?) = some (r_spec_TenantNew.1, r_spec_TenantNew.2, stripK k_spec_TenantNew) := by kernel_rfl

theorem h_spec_TenantNew (q c b : Int) : CallsF Try.prog 10 [aI q, aI c, aI b] (.tup [(true, rTenant (tenantNew q c b)), (false, [.bool (tenantOk (tenant0 q c b))])]) := by
  refine Prun c_spec_TenantNew (by simp [r_spec_TenantNew]) (by simp) ?_
  unfold k_spec_TenantNew r_spec_TenantNew
  have h := h_spec_TenantOk (tenant0 q c b) (by simp [tenant0, wTenant, wL])
  rw [tenantOk_eq] at h
  simp only [tenantNew]
  generalize tenantOk (tenant0 q c b) = ok at *
  simp
  refine callG_F h (by simp) ?_
  cases ok <;> simp [rTenant, tenant0]
-- 11 loop.example/g00485/impl.TenantNew
def k_impl_TenantNew : K :=
 .seq (
  .reg none [⟨(some 6), none, .alc 25 10 [(.int .i64 (0)), (.int .i64 (0)), (.int .i64 (0)), (.int .i64 (0)), (.int .i64 (0)), (.int .i64 (0)), (.int .i64 (0)), (.int .i64 (0)), (.ar true 133 10 []), (.ar true 102 3 [])]⟩,
    ⟨(some 7), none, .asn (.c (.bool false))⟩]) (
 .seq (
  .reg none [⟨(some 9), none, .mv (.t 0)⟩,
    ⟨(some 10), none, .mv (.t 1)⟩,
    ⟨(some 11), none, .mv (.t 2)⟩,
    ⟨(some 12), none, .bld false [(.int .i64 (0)), (.int .i64 (0)), (.int .i64 (0)), (.int .i64 (0)), (.int .i64 (0)), (.int .i64 (0)), (.int .i64 (0)), (.int .i64 (0)), (.ar true 133 10 []), (.ar true 102 3 [])] [(0, 1, (.t 9)), (1, 1, (.t 10)), (2, 1, (.t 11))]⟩,
    ⟨(some 8), none, .alc 25 10 [(.int .i64 (0)), (.int .i64 (0)), (.int .i64 (0)), (.int .i64 (0)), (.int .i64 (0)), (.int .i64 (0)), (.int .i64 (0)), (.int .i64 (0)), (.ar true 133 10 []), (.ar true 102 3 [])]⟩,
    ⟨none, none, .st 10 false (.t 8) (.t 12)⟩]) (
 .seq (
  .seq (
   .reg none [⟨(some 13), none, .ld 10 true (.t 8)⟩,
     ⟨(some 14), none, .call 48 [(.t 13)]⟩,
     ⟨(some 15), none, .not (.t 14)⟩]) (
  .cond (.t 15) (
   .seq (
    .reg none [⟨(some 16), none, .bld false [(.int .i64 (0)), (.int .i64 (0)), (.int .i64 (0)), (.int .i64 (0)), (.int .i64 (0)), (.int .i64 (0)), (.int .i64 (0)), (.int .i64 (0)), (.ar true 133 10 []), (.ar true 102 3 [])] []⟩,
      ⟨none, none, .st 10 false (.t 6) (.t 16)⟩,
      ⟨(some 7), none, .asn (.c (.bool false))⟩]) (
   .ret)) (
   .skip))) (
 .seq (
  .reg none [⟨(some 17), none, .ld 10 true (.t 8)⟩,
    ⟨none, none, .st 10 false (.t 6) (.t 17)⟩,
    ⟨(some 7), none, .asn (.c (.bool true))⟩]) (
 .ret))))
def r_impl_TenantNew : Nat × List RV := (18, [.c 6 10 true, .t 7])

theorem c_impl_TenantNew : cmpS PT PF PA (Try.prog.funcs[11]?) = some (r_impl_TenantNew.1, r_impl_TenantNew.2, stripK k_impl_TenantNew) := by kernel_rfl

theorem h_impl_TenantNew (q c b : Int) : CallsF Try.prog 11 [aI q, aI c, aI b] (.tup [(true, rTenant (tenantNew q c b)), (false, [.bool (tenantOk (tenant0 q c b))])]) := by
  refine Prun c_impl_TenantNew (by simp [r_impl_TenantNew]) (by simp) ?_
  unfold k_impl_TenantNew r_impl_TenantNew
  have h := h_impl_TenantOk (tenant0 q c b) (by simp [tenant0, lTenant, lL]) (by simp [tenant0, wTenant, wL])
  simp only [tenantNew]
  generalize tenantOk (tenant0 q c b) = ok at *
  simp
  refine callG_F h (by simp) ?_
  cases ok <;> simp [rTenant, tenant0]
end Go.Am
-- Err_eq1
namespace Go.Am
open Go.Proofs
set_option maxHeartbeats 4000000
set_option maxRecDepth 100000
-- 195 loop.example/g00485/laws.eqErr
def k_laws_eqErr : K :=
 .seq (
  .reg none [⟨(some 2), none, .box 187 3 (.t 0)⟩,
    ⟨(some 3), none, .box 187 3 (.t 1)⟩,
    ⟨(some 4), none, .asn (.c (.bool false))⟩]) (
 .seq (
  .seq (
   .reg none [⟨(some 5), none, .fad 0 (.t 2)⟩,
     ⟨(some 6), none, .ld 1 false (.t 5)⟩,
     ⟨(some 7), none, .fad 0 (.t 3)⟩,
     ⟨(some 8), none, .ld 1 false (.t 7)⟩,
     ⟨(some 9), none, .bin .neq (.t 6) (.t 8)⟩]) (
  .cond (.t 9) (
   .seq (
    .reg none [⟨(some 4), none, .asn (.c (.bool false))⟩]) (
   .ret)) (
   .skip))) (
 .seq (
  .seq (
   .reg none [⟨(some 10), none, .fad 1 (.t 2)⟩,
     ⟨(some 11), none, .ld 1 false (.t 10)⟩,
     ⟨(some 12), none, .fad 1 (.t 3)⟩,
     ⟨(some 13), none, .ld 1 false (.t 12)⟩,
     ⟨(some 14), none, .bin .neq (.t 11) (.t 13)⟩]) (
  .cond (.t 14) (
   .seq (
    .reg none [⟨(some 4), none, .asn (.c (.bool false))⟩]) (
   .ret)) (
   .skip))) (
 .seq (
  .seq (
   .reg none [⟨(some 15), none, .fad 2 (.t 2)⟩,
     ⟨(some 16), none, .ld 1 false (.t 15)⟩,
     ⟨(some 17), none, .fad 2 (.t 3)⟩,
     ⟨(some 18), none, .ld 1 false (.t 17)⟩,
     ⟨(some 19), none, .bin .neq (.t 16) (.t 18)⟩]) (
  .cond (.t 19) (
   .seq (
    .reg none [⟨(some 4), none, .asn (.c (.bool false))⟩]) (
   .ret)) (
   .skip))) (
 .seq (
  .reg none [⟨(some 4), none, .asn (.c (.bool true))⟩]) (
 .ret)))))
def r_laws_eqErr : Nat × List RV := (20, [.t 4])

theorem c_laws_eqErr : cmpS PT PF PA (Try.prog.funcs[195]?) = some (r_laws_eqErr.1, r_laws_eqErr.2, stripK k_laws_eqErr) := by kernel_rfl

theorem h_eqErr (a : TErr) (ha : wErr a < 2 ^ 40) : CallsF Try.prog 195 [.agg (sErr a), .agg (sErr a)] (aB true) := by
  refine Prun c_laws_eqErr (by simp [r_laws_eqErr]) (by simp) ?_
  unfold k_laws_eqErr r_laws_eqErr
  simp only [wErr] at ha
  simp [sErr]
end Go.Am
-- Err_eq
namespace Go.Am
open Go.Proofs
set_option maxHeartbeats 4000000
set_option maxRecDepth 100000
-- 172 loop.example/g00485/laws.eqErrS
def k_laws_eqErrS : K :=
 .seq (
  .reg none [⟨(some 4), none, .asn (.c (.bool false))⟩]) (
 .seq (
  .seq (
   .reg none [⟨(some 6), none, .mv (.t 0)⟩,
     ⟨(some 7), none, .len (.t 6)⟩,
     ⟨(some 8), none, .mv (.t 1)⟩,
     ⟨(some 9), none, .len (.t 8)⟩,
     ⟨(some 10), none, .bin .neq (.t 7) (.t 9)⟩]) (
  .cond (.t 10) (
   .seq (
    .reg none [⟨(some 4), none, .asn (.c (.bool false))⟩]) (
   .ret)) (
   .skip))) (
 .seq (
  .seq (
   .reg none [⟨(some 5), none, .asn (.c (.int .i64 (0)))⟩]) (
  .block 0 (
   .loop (some ([0, 1, 5], [0, 1, 5, 1000])) (
    .seq (
     .seq (
      .reg none [⟨(some 11), none, .mv (.t 5)⟩,
        ⟨(some 12), none, .mv (.t 0)⟩,
        ⟨(some 13), none, .len (.t 12)⟩,
        ⟨(some 14), none, .bin .lss (.t 11) (.t 13)⟩]) (
     .cond (.t 14) (
      .skip) (
      .exit 0))) (
    .seq (
     .block 1 (
      .seq (
       .drw none 10 [⟨(some 17), none, .mv (.t 0)⟩,
         ⟨(some 18), none, .mv (.t 5)⟩,
         ⟨(some 19), none, .iad 3 (.t 17) (.t 18)⟩,
         ⟨(some 20), none, .ld 3 true (.t 19)⟩,
         ⟨(some 21), none, .mv (.t 1)⟩,
         ⟨(some 22), none, .mv (.t 5)⟩,
         ⟨(some 23), none, .iad 3 (.t 21) (.t 22)⟩,
         ⟨(some 24), none, .ld 3 true (.t 23)⟩,
         ⟨(some 25), none, .call 195 [(.t 20), (.t 24)]⟩,
         ⟨(some 26), none, .not (.t 25)⟩]) (
      .cond (.t 26) (
       .seq (
        .reg none [⟨(some 4), none, .asn (.c (.bool false))⟩]) (
       .ret)) (
       .skip)))) (
    .reg none [⟨(some 15), none, .mv (.t 5)⟩,
      ⟨(some 16), none, .bin .add (.t 15) (.c (.int .i64 (1)))⟩,
      ⟨(some 5), none, .asn (.t 16)⟩])))))) (
 .seq (
  .reg none [⟨(some 4), none, .asn (.c (.bool true))⟩]) (
 .ret))))
def r_laws_eqErrS : Nat × List RV := (27, [.t 4])

theorem c_laws_eqErrS : cmpS PT PF PA (Try.prog.funcs[172]?) = some (r_laws_eqErrS.1, r_laws_eqErrS.2, stripK k_laws_eqErrS) := by kernel_rfl

theorem h_eqErrS (xs : List TErr) (hx : wL wErr xs < 2 ^ 40) : CallsF Try.prog 172 [.one (.ar false 0 3 (xs.map sErr)), .one (.ar false 0 3 (xs.map sErr))] (aB true) := by
  refine Prun c_laws_eqErrS (by simp [r_laws_eqErrS]) (by simp) ?_
  unfold k_laws_eqErrS r_laws_eqErrS
  have hlen := wL_len wErr xs
  simp
  refine awp_loop (fun n σ => ∃ i : Nat, i ≤ xs.length ∧ n = xs.length - i ∧ σ = ⟨[(0, .one (.ar false 0 3 (xs.map sErr))), (1, .one (.ar false 0 3 (xs.map sErr))), (5, aI i)], []⟩) (xs.length) ⟨0, by simp⟩ ?_
  rintro n σ ⟨i, hi, rfl, rfl⟩
  by_cases h : i < xs.length
  · have hw := wL_get wErr xs i h
    simp [h, sErr]
    refine ⟨_, by simp, h_eqErr xs[i] (by omega), ?_⟩
    simp
    refine ⟨xs.length - (i + 1), by omega, i + 1, by omega, rfl, ?_⟩
    rw [wrapI (by omega) (by omega)]
    simp
  · simp [h]
end Go.Am
-- Slot_eq1
namespace Go.Am
open Go.Proofs
set_option maxHeartbeats 4000000
set_option maxRecDepth 100000
-- 193 loop.example/g00485/laws.eqSlot
def k_laws_eqSlot : K :=
 .seq (
  .reg none [⟨(some 2), none, .box 183 2 (.t 0)⟩,
    ⟨(some 3), none, .box 183 2 (.t 1)⟩,
    ⟨(some 4), none, .asn (.c (.bool false))⟩]) (
 .seq (
  .seq (
   .reg none [⟨(some 5), none, .fad 0 (.t 2)⟩,
     ⟨(some 6), none, .ld 1 false (.t 5)⟩,
     ⟨(some 7), none, .fad 0 (.t 3)⟩,
     ⟨(some 8), none, .ld 1 false (.t 7)⟩,
     ⟨(some 9), none, .bin .neq (.t 6) (.t 8)⟩]) (
  .cond (.t 9) (
   .seq (
    .reg none [⟨(some 4), none, .asn (.c (.bool false))⟩]) (
   .ret)) (
   .skip))) (
 .seq (
  .seq (
   .reg none [⟨(some 10), none, .fad 1 (.t 2)⟩,
     ⟨(some 11), none, .ld 1 false (.t 10)⟩,
     ⟨(some 12), none, .fad 1 (.t 3)⟩,
     ⟨(some 13), none, .ld 1 false (.t 12)⟩,
     ⟨(some 14), none, .bin .neq (.t 11) (.t 13)⟩]) (
  .cond (.t 14) (
   .seq (
    .reg none [⟨(some 4), none, .asn (.c (.bool false))⟩]) (
   .ret)) (
   .skip))) (
 .seq (
  .reg none [⟨(some 4), none, .asn (.c (.bool true))⟩]) (
 .ret))))
def r_laws_eqSlot : Nat × List RV := (15, [.t 4])

theorem c_laws_eqSlot : cmpS PT PF PA (Try.prog.funcs[193]?) = some (r_laws_eqSlot.1, r_laws_eqSlot.2, stripK k_laws_eqSlot) := by kernel_rfl

theorem h_eqSlot (a : TSlot) (ha : wSlot a < 2 ^ 40) : CallsF Try.prog 193 [.agg (sSlot a), .agg (sSlot a)] (aB true) := by
  refine Prun c_laws_eqSlot (by simp [r_laws_eqSlot]) (by simp) ?_
  unfold k_laws_eqSlot r_laws_eqSlot
  simp only [wSlot] at ha
  simp [sSlot]
end Go.Am
-- Slot_eq
namespace Go.Am
open Go.Proofs
set_option maxHeartbeats 4000000
set_option maxRecDepth 100000
-- 170 loop.example/g00485/laws.eqSlotS
def k_laws_eqSlotS : K :=
 .seq (
  .reg none [⟨(some 4), none, .asn (.c (.bool false))⟩]) (
 .seq (
  .seq (
   .reg none [⟨(some 6), none, .mv (.t 0)⟩,
     ⟨(some 7), none, .len (.t 6)⟩,
     ⟨(some 8), none, .mv (.t 1)⟩,
     ⟨(some 9), none, .len (.t 8)⟩,
     ⟨(some 10), none, .bin .neq (.t 7) (.t 9)⟩]) (
  .cond (.t 10) (
   .seq (
    .reg none [⟨(some 4), none, .asn (.c (.bool false))⟩]) (
   .ret)) (
   .skip))) (
 .seq (
  .seq (
   .reg none [⟨(some 5), none, .asn (.c (.int .i64 (0)))⟩]) (
  .block 0 (
   .loop (some ([0, 1, 5], [0, 1, 5, 1000])) (
    .seq (
     .seq (
      .reg none [⟨(some 11), none, .mv (.t 5)⟩,
        ⟨(some 12), none, .mv (.t 0)⟩,
        ⟨(some 13), none, .len (.t 12)⟩,
        ⟨(some 14), none, .bin .lss (.t 11) (.t 13)⟩]) (
     .cond (.t 14) (
      .skip) (
      .exit 0))) (
    .seq (
     .block 1 (
      .seq (
       .drw none 10 [⟨(some 17), none, .mv (.t 0)⟩,
         ⟨(some 18), none, .mv (.t 5)⟩,
         ⟨(some 19), none, .iad 2 (.t 17) (.t 18)⟩,
         ⟨(some 20), none, .ld 2 true (.t 19)⟩,
         ⟨(some 21), none, .mv (.t 1)⟩,
         ⟨(some 22), none, .mv (.t 5)⟩,
         ⟨(some 23), none, .iad 2 (.t 21) (.t 22)⟩,
         ⟨(some 24), none, .ld 2 true (.t 23)⟩,
         ⟨(some 25), none, .call 193 [(.t 20), (.t 24)]⟩,
         ⟨(some 26), none, .not (.t 25)⟩]) (
      .cond (.t 26) (
       .seq (
        .reg none [⟨(some 4), none, .asn (.c (.bool false))⟩]) (
       .ret)) (
       .skip)))) (
    .reg none [⟨(some 15), none, .mv (.t 5)⟩,
      ⟨(some 16), none, .bin .add (.t 15) (.c (.int .i64 (1)))⟩,
      ⟨(some 5), none, .asn (.t 16)⟩])))))) (
 .seq (
  .reg none [⟨(some 4), none, .asn (.c (.bool true))⟩]) (
 .ret))))
def r_laws_eqSlotS : Nat × List RV := (27, [.t 4])

theorem c_laws_eqSlotS : cmpS PT PF PA (Try.prog.funcs[170]?) = some (r_laws_eqSlotS.1, r_laws_eqSlotS.2, stripK k_laws_eqSlotS) := by kernel_rfl

theorem h_eqSlotS (xs : List TSlot) (hx : wL wSlot xs < 2 ^ 40) : CallsF Try.prog 170 [.one (.ar false 0 2 (xs.map sSlot)), .one (.ar false 0 2 (xs.map sSlot))] (aB true) := by
  refine Prun c_laws_eqSlotS (by simp [r_laws_eqSlotS]) (by simp) ?_
  unfold k_laws_eqSlotS r_laws_eqSlotS
  have hlen := wL_len wSlot xs
  simp
  refine awp_loop (fun n σ => ∃ i : Nat, i ≤ xs.length ∧ n = xs.length - i ∧ σ = ⟨[(0, .one (.ar false 0 2 (xs.map sSlot))), (1, .one (.ar false 0 2 (xs.map sSlot))), (5, aI i)], []⟩) (xs.length) ⟨0, by simp⟩ ?_
  rintro n σ ⟨i, hi, rfl, rfl⟩
  by_cases h : i < xs.length
  · have hw := wL_get wSlot xs i h
    simp [h, sSlot]
    refine ⟨_, by simp, h_eqSlot xs[i] (by omega), ?_⟩
    simp
    refine ⟨xs.length - (i + 1), by omega, i + 1, by omega, rfl, ?_⟩
    rw [wrapI (by omega) (by omega)]
    simp
  · simp [h]
end Go.Am
-- Node_eq1
namespace Go.Am
open Go.Proofs
set_option maxHeartbeats 4000000
set_option maxRecDepth 100000
-- 209 loop.example/g00485/laws.eqNode
def k_laws_eqNode : K :=
 .seq (
  .reg none [⟨(some 2), none, .box 185 5 (.t 0)⟩,
    ⟨(some 3), none, .box 185 5 (.t 1)⟩,
    ⟨(some 4), none, .asn (.c (.bool false))⟩]) (
 .seq (
  .seq (
   .reg none [⟨(some 5), none, .fad 0 (.t 2)⟩,
     ⟨(some 6), none, .ld 1 false (.t 5)⟩,
     ⟨(some 7), none, .fad 0 (.t 3)⟩,
     ⟨(some 8), none, .ld 1 false (.t 7)⟩,
     ⟨(some 9), none, .bin .neq (.t 6) (.t 8)⟩]) (
  .cond (.t 9) (
   .seq (
    .reg none [⟨(some 4), none, .asn (.c (.bool false))⟩]) (
   .ret)) (
   .skip))) (
 .seq (
  .seq (
   .reg none [⟨(some 10), none, .fad 1 (.t 2)⟩,
     ⟨(some 11), none, .ld 1 false (.t 10)⟩,
     ⟨(some 12), none, .fad 1 (.t 3)⟩,
     ⟨(some 13), none, .ld 1 false (.t 12)⟩,
     ⟨(some 14), none, .bin .neq (.t 11) (.t 13)⟩]) (
  .cond (.t 14) (
   .seq (
    .reg none [⟨(some 4), none, .asn (.c (.bool false))⟩]) (
   .ret)) (
   .skip))) (
 .seq (
  .seq (
   .reg none [⟨(some 15), none, .fad 2 (.t 2)⟩,
     ⟨(some 16), none, .ld 1 false (.t 15)⟩,
     ⟨(some 17), none, .fad 2 (.t 3)⟩,
     ⟨(some 18), none, .ld 1 false (.t 17)⟩,
     ⟨(some 19), none, .bin .neq (.t 16) (.t 18)⟩]) (
  .cond (.t 19) (
   .seq (
    .reg none [⟨(some 4), none, .asn (.c (.bool false))⟩]) (
   .ret)) (
   .skip))) (
 .seq (
  .seq (
   .reg none [⟨(some 20), none, .fad 3 (.t 2)⟩,
     ⟨(some 21), none, .ld 1 false (.t 20)⟩,
     ⟨(some 22), none, .fad 3 (.t 3)⟩,
     ⟨(some 23), none, .ld 1 false (.t 22)⟩,
     ⟨(some 24), none, .bin .neq (.t 21) (.t 23)⟩]) (
  .cond (.t 24) (
   .seq (
    .reg none [⟨(some 4), none, .asn (.c (.bool false))⟩]) (
   .ret)) (
   .skip))) (
 .seq (
  .seq (
   .reg none [⟨(some 25), none, .fad 4 (.t 2)⟩,
     ⟨(some 26), none, .ld 1 false (.t 25)⟩,
     ⟨(some 27), none, .fad 4 (.t 3)⟩,
     ⟨(some 28), none, .ld 1 false (.t 27)⟩,
     ⟨(some 29), none, .call 22 [(.t 26), (.t 28)]⟩,
     ⟨(some 30), none, .not (.t 29)⟩]) (
  .cond (.t 30) (
   .seq (
    .reg none [⟨(some 4), none, .asn (.c (.bool false))⟩]) (
   .ret)) (
   .skip))) (
 .seq (
  .reg none [⟨(some 4), none, .asn (.c (.bool true))⟩]) (
 .ret)))))))
def r_laws_eqNode : Nat × List RV := (31, [.t 4])

theorem c_laws_eqNode : cmpS PT PF PA (Try.prog.funcs[209]?) = some (r_laws_eqNode.1, r_laws_eqNode.2, stripK k_laws_eqNode) := by kernel_rfl

theorem h_eqNode (a : TNode) (ha : wNode a < 2 ^ 40) : CallsF Try.prog 209 [.agg (sNode a), .agg (sNode a)] (aB true) := by
  refine Prun c_laws_eqNode (by simp [r_laws_eqNode]) (by simp) ?_
  unfold k_laws_eqNode r_laws_eqNode
  simp only [wNode] at ha
  simp [sNode]
  refine callG_F (h_eqIntS a.kids (by omega)) (by simp) ?_
  simp
end Go.Am
-- Node_eq
namespace Go.Am
open Go.Proofs
set_option maxHeartbeats 4000000
set_option maxRecDepth 100000
-- 194 loop.example/g00485/laws.eqNodeS
def k_laws_eqNodeS : K :=
 .seq (
  .reg none [⟨(some 4), none, .asn (.c (.bool false))⟩]) (
 .seq (
  .seq (
   .reg none [⟨(some 6), none, .mv (.t 0)⟩,
     ⟨(some 7), none, .len (.t 6)⟩,
     ⟨(some 8), none, .mv (.t 1)⟩,
     ⟨(some 9), none, .len (.t 8)⟩,
     ⟨(some 10), none, .bin .neq (.t 7) (.t 9)⟩]) (
  .cond (.t 10) (
   .seq (
    .reg none [⟨(some 4), none, .asn (.c (.bool false))⟩]) (
   .ret)) (
   .skip))) (
 .seq (
  .seq (
   .reg none [⟨(some 5), none, .asn (.c (.int .i64 (0)))⟩]) (
  .block 0 (
   .loop (some ([0, 1, 5], [0, 1, 5, 1000])) (
    .seq (
     .seq (
      .reg none [⟨(some 11), none, .mv (.t 5)⟩,
        ⟨(some 12), none, .mv (.t 0)⟩,
        ⟨(some 13), none, .len (.t 12)⟩,
        ⟨(some 14), none, .bin .lss (.t 11) (.t 13)⟩]) (
     .cond (.t 14) (
      .skip) (
      .exit 0))) (
    .seq (
     .block 1 (
      .seq (
       .drw none 10 [⟨(some 17), none, .mv (.t 0)⟩,
         ⟨(some 18), none, .mv (.t 5)⟩,
         ⟨(some 19), none, .iad 5 (.t 17) (.t 18)⟩,
         ⟨(some 20), none, .ld 5 true (.t 19)⟩,
         ⟨(some 21), none, .mv (.t 1)⟩,
         ⟨(some 22), none, .mv (.t 5)⟩,
         ⟨(some 23), none, .iad 5 (.t 21) (.t 22)⟩,
         ⟨(some 24), none, .ld 5 true (.t 23)⟩,
         ⟨(some 25), none, .call 209 [(.t 20), (.t 24)]⟩,
         ⟨(some 26), none, .not (.t 25)⟩]) (
      .cond (.t 26) (
       .seq (
        .reg none [⟨(some 4), none, .asn (.c (.bool false))⟩]) (
       .ret)) (
       .skip)))) (
    .reg none [⟨(some 15), none, .mv (.t 5)⟩,
      ⟨(some 16), none, .bin .add (.t 15) (.c (.int .i64 (1)))⟩,
      ⟨(some 5), none, .asn (.t 16)⟩])))))) (
 .seq (
  .reg none [⟨(some 4), none, .asn (.c (.bool true))⟩]) (
 .ret))))
def r_laws_eqNodeS : Nat × List RV := (27, [.t 4])

theorem c_laws_eqNodeS : cmpS PT PF PA (Try.prog.funcs[194]?) = some (r_laws_eqNodeS.1, r_laws_eqNodeS.2, stripK k_laws_eqNodeS) := by kernel_rfl

theorem h_eqNodeS (xs : List TNode) (hx : wL wNode xs < 2 ^ 40) : CallsF Try.prog 194 [.one (.ar false 0 5 (xs.map sNode)), .one (.ar false 0 5 (xs.map sNode))] (aB true) := by
  refine Prun c_laws_eqNodeS (by simp [r_laws_eqNodeS]) (by simp) ?_
  unfold k_laws_eqNodeS r_laws_eqNodeS
  have hlen := wL_len wNode xs
  simp
  refine awp_loop (fun n σ => ∃ i : Nat, i ≤ xs.length ∧ n = xs.length - i ∧ σ = ⟨[(0, .one (.ar false 0 5 (xs.map sNode))), (1, .one (.ar false 0 5 (xs.map sNode))), (5, aI i)], []⟩) (xs.length) ⟨0, by simp⟩ ?_
  rintro n σ ⟨i, hi, rfl, rfl⟩
  by_cases h : i < xs.length
  · have hw := wL_get wNode xs i h
    simp [h, sNode]
    refine ⟨_, by simp, h_eqNode xs[i] (by omega), ?_⟩
    simp
    refine ⟨xs.length - (i + 1), by omega, i + 1, by omega, rfl, ?_⟩
    rw [wrapI (by omega) (by omega)]
    simp
  · simp [h]
end Go.Am
-- Tree_eq1
namespace Go.Am
open Go.Proofs
set_option maxHeartbeats 4000000
set_option maxRecDepth 100000
-- 171 loop.example/g00485/laws.eqTree
def k_laws_eqTree : K :=
 .seq (
  .reg none [⟨(some 2), none, .box 128 1 (.t 0)⟩,
    ⟨(some 3), none, .box 128 1 (.t 1)⟩,
    ⟨(some 4), none, .asn (.c (.bool false))⟩]) (
 .seq (
  .seq (
   .reg none [⟨(some 5), none, .fad 0 (.t 2)⟩,
     ⟨(some 6), none, .ld 1 false (.t 5)⟩,
     ⟨(some 7), none, .fad 0 (.t 3)⟩,
     ⟨(some 8), none, .ld 1 false (.t 7)⟩,
     ⟨(some 9), none, .call 194 [(.t 6), (.t 8)]⟩,
     ⟨(some 10), none, .not (.t 9)⟩]) (
  .cond (.t 10) (
   .seq (
    .reg none [⟨(some 4), none, .asn (.c (.bool false))⟩]) (
   .ret)) (
   .skip))) (
 .seq (
  .reg none [⟨(some 4), none, .asn (.c (.bool true))⟩]) (
 .ret)))
def r_laws_eqTree : Nat × List RV := (11, [.t 4])

theorem c_laws_eqTree : cmpS PT PF PA (Try.prog.funcs[171]?) = some (r_laws_eqTree.1, r_laws_eqTree.2, stripK k_laws_eqTree) := by kernel_rfl

theorem h_eqTree (a : TTree) (ha : wTree a < 2 ^ 40) : CallsF Try.prog 171 [.agg (sTree a), .agg (sTree a)] (aB true) := by
  refine Prun c_laws_eqTree (by simp [r_laws_eqTree]) (by simp) ?_
  unfold k_laws_eqTree r_laws_eqTree
  simp only [wTree] at ha
  simp [sTree]
  refine callG_F (h_eqNodeS a.nodes (by omega)) (by simp) ?_
  simp
end Go.Am
-- Run_eq1
namespace Go.Am
open Go.Proofs
set_option maxHeartbeats 4000000
set_option maxRecDepth 100000
-- 143 loop.example/g00485/laws.eqRun
def k_laws_eqRun : K :=
 .seq (
  .reg none [⟨(some 2), none, .box 131 7 (.t 0)⟩,
    ⟨(some 3), none, .box 131 7 (.t 1)⟩,
    ⟨(some 4), none, .asn (.c (.bool false))⟩]) (
 .seq (
  .seq (
   .reg none [⟨(some 5), none, .fad 0 (.t 2)⟩,
     ⟨(some 6), none, .ld 1 false (.t 5)⟩,
     ⟨(some 7), none, .fad 0 (.t 3)⟩,
     ⟨(some 8), none, .ld 1 false (.t 7)⟩,
     ⟨(some 9), none, .bin .neq (.t 6) (.t 8)⟩]) (
  .cond (.t 9) (
   .seq (
    .reg none [⟨(some 4), none, .asn (.c (.bool false))⟩]) (
   .ret)) (
   .skip))) (
 .seq (
  .seq (
   .reg none [⟨(some 10), none, .fad 1 (.t 2)⟩,
     ⟨(some 11), none, .ld 1 false (.t 10)⟩,
     ⟨(some 12), none, .fad 1 (.t 3)⟩,
     ⟨(some 13), none, .ld 1 false (.t 12)⟩,
     ⟨(some 14), none, .bin .neq (.t 11) (.t 13)⟩]) (
  .cond (.t 14) (
   .seq (
    .reg none [⟨(some 4), none, .asn (.c (.bool false))⟩]) (
   .ret)) (
   .skip))) (
 .seq (
  .seq (
   .reg none [⟨(some 15), none, .fad 2 (.t 2)⟩,
     ⟨(some 16), none, .ld 1 false (.t 15)⟩,
     ⟨(some 17), none, .fad 2 (.t 3)⟩,
     ⟨(some 18), none, .ld 1 false (.t 17)⟩,
     ⟨(some 19), none, .bin .neq (.t 16) (.t 18)⟩]) (
  .cond (.t 19) (
   .seq (
    .reg none [⟨(some 4), none, .asn (.c (.bool false))⟩]) (
   .ret)) (
   .skip))) (
 .seq (
  .seq (
   .reg none [⟨(some 20), none, .fad 3 (.t 2)⟩,
     ⟨(some 21), none, .ld 1 false (.t 20)⟩,
     ⟨(some 22), none, .fad 3 (.t 3)⟩,
     ⟨(some 23), none, .ld 1 false (.t 22)⟩,
     ⟨(some 24), none, .bin .neq (.t 21) (.t 23)⟩]) (
  .cond (.t 24) (
   .seq (
    .reg none [⟨(some 4), none, .asn (.c (.bool false))⟩]) (
   .ret)) (
   .skip))) (
 .seq (
  .seq (
   .reg none [⟨(some 25), none, .fad 4 (.t 2)⟩,
     ⟨(some 26), none, .ld 1 false (.t 25)⟩,
     ⟨(some 27), none, .fad 4 (.t 3)⟩,
     ⟨(some 28), none, .ld 1 false (.t 27)⟩,
     ⟨(some 29), none, .call 170 [(.t 26), (.t 28)]⟩,
     ⟨(some 30), none, .not (.t 29)⟩]) (
  .cond (.t 30) (
   .seq (
    .reg none [⟨(some 4), none, .asn (.c (.bool false))⟩]) (
   .ret)) (
   .skip))) (
 .seq (
  .seq (
   .reg none [⟨(some 31), none, .fad 5 (.t 2)⟩,
     ⟨(some 32), none, .ld 1 true (.t 31)⟩,
     ⟨(some 33), none, .fad 5 (.t 3)⟩,
     ⟨(some 34), none, .ld 1 true (.t 33)⟩,
     ⟨(some 35), none, .call 171 [(.t 32), (.t 34)]⟩,
     ⟨(some 36), none, .not (.t 35)⟩]) (
  .cond (.t 36) (
   .seq (
    .reg none [⟨(some 4), none, .asn (.c (.bool false))⟩]) (
   .ret)) (
   .skip))) (
 .seq (
  .seq (
   .reg none [⟨(some 37), none, .fad 6 (.t 2)⟩,
     ⟨(some 38), none, .ld 1 false (.t 37)⟩,
     ⟨(some 39), none, .fad 6 (.t 3)⟩,
     ⟨(some 40), none, .ld 1 false (.t 39)⟩,
     ⟨(some 41), none, .call 172 [(.t 38), (.t 40)]⟩,
     ⟨(some 42), none, .not (.t 41)⟩]) (
  .cond (.t 42) (
   .seq (
    .reg none [⟨(some 4), none, .asn (.c (.bool false))⟩]) (
   .ret)) (
   .skip))) (
 .seq (
  .reg none [⟨(some 4), none, .asn (.c (.bool true))⟩]) (
 .ret)))))))))
def r_laws_eqRun : Nat × List RV := (43, [.t 4])

theorem c_laws_eqRun : cmpS PT PF PA (Try.prog.funcs[143]?) = some (r_laws_eqRun.1, r_laws_eqRun.2, stripK k_laws_eqRun) := by kernel_rfl

theorem h_eqRun (a : TRun) (ha : wRun a < 2 ^ 40) : CallsF Try.prog 143 [.agg (sRun a), .agg (sRun a)] (aB true) := by
  refine Prun c_laws_eqRun (by simp [r_laws_eqRun]) (by simp) ?_
  unfold k_laws_eqRun r_laws_eqRun
  simp only [wRun] at ha
  simp [sRun]
  refine callG_F (h_eqSlotS a.slots (by omega)) (by simp) ?_
  simp
  refine callG_F (h_eqTree a.tree (by omega)) (by simp) ?_
  simp
  refine callG_F (h_eqErrS a.errs (by omega)) (by simp) ?_
  simp
end Go.Am
-- Job_eq1
namespace Go.Am
open Go.Proofs
set_option maxHeartbeats 4000000
set_option maxRecDepth 100000
-- 97 loop.example/g00485/laws.eqJob
def k_laws_eqJob : K :=
 .seq (
  .reg none [⟨(some 2), none, .box 133 10 (.t 0)⟩,
    ⟨(some 3), none, .box 133 10 (.t 1)⟩,
    ⟨(some 4), none, .asn (.c (.bool false))⟩]) (
 .seq (
  .seq (
   .reg none [⟨(some 5), none, .fad 0 (.t 2)⟩,
     ⟨(some 6), none, .ld 1 false (.t 5)⟩,
     ⟨(some 7), none, .fad 0 (.t 3)⟩,
     ⟨(some 8), none, .ld 1 false (.t 7)⟩,
     ⟨(some 9), none, .bin .neq (.t 6) (.t 8)⟩]) (
  .cond (.t 9) (
   .seq (
    .reg none [⟨(some 4), none, .asn (.c (.bool false))⟩]) (
   .ret)) (
   .skip))) (
 .seq (
  .seq (
   .reg none [⟨(some 10), none, .fad 1 (.t 2)⟩,
     ⟨(some 11), none, .ld 1 false (.t 10)⟩,
     ⟨(some 12), none, .fad 1 (.t 3)⟩,
     ⟨(some 13), none, .ld 1 false (.t 12)⟩,
     ⟨(some 14), none, .bin .neq (.t 11) (.t 13)⟩]) (
  .cond (.t 14) (
   .seq (
    .reg none [⟨(some 4), none, .asn (.c (.bool false))⟩]) (
   .ret)) (
   .skip))) (
 .seq (
  .seq (
   .reg none [⟨(some 15), none, .fad 2 (.t 2)⟩,
     ⟨(some 16), none, .ld 1 false (.t 15)⟩,
     ⟨(some 17), none, .fad 2 (.t 3)⟩,
     ⟨(some 18), none, .ld 1 false (.t 17)⟩,
     ⟨(some 19), none, .call 22 [(.t 16), (.t 18)]⟩,
     ⟨(some 20), none, .not (.t 19)⟩]) (
  .cond (.t 20) (
   .seq (
    .reg none [⟨(some 4), none, .asn (.c (.bool false))⟩]) (
   .ret)) (
   .skip))) (
 .seq (
  .seq (
   .reg none [⟨(some 21), none, .fad 3 (.t 2)⟩,
     ⟨(some 22), none, .ld 7 true (.t 21)⟩,
     ⟨(some 23), none, .fad 3 (.t 3)⟩,
     ⟨(some 24), none, .ld 7 true (.t 23)⟩,
     ⟨(some 25), none, .call 143 [(.t 22), (.t 24)]⟩,
     ⟨(some 26), none, .not (.t 25)⟩]) (
  .cond (.t 26) (
   .seq (
    .reg none [⟨(some 4), none, .asn (.c (.bool false))⟩]) (
   .ret)) (
   .skip))) (
 .seq (
  .reg none [⟨(some 4), none, .asn (.c (.bool true))⟩]) (
 .ret))))))
def r_laws_eqJob : Nat × List RV := (27, [.t 4])

theorem c_laws_eqJob : cmpS PT PF PA (Try.prog.funcs[97]?) = some (r_laws_eqJob.1, r_laws_eqJob.2, stripK k_laws_eqJob) := by kernel_rfl

theorem h_eqJob (a : TJob) (ha : wJob a < 2 ^ 40) : CallsF Try.prog 97 [.agg (sJob a), .agg (sJob a)] (aB true) := by
  refine Prun c_laws_eqJob (by simp [r_laws_eqJob]) (by simp) ?_
  unfold k_laws_eqJob r_laws_eqJob
  simp only [wJob] at ha
  simp [sJob]
  refine callG_F (h_eqIntS a.input (by omega)) (by simp) ?_
  simp
  refine callG_F (h_eqRun a.run (by omega)) (by simp) ?_
  simp
end Go.Am
-- Job_eq
namespace Go.Am
open Go.Proofs
set_option maxHeartbeats 4000000
set_option maxRecDepth 100000
-- 49 loop.example/g00485/laws.eqJobS
def k_laws_eqJobS : K :=
 .seq (
  .reg none [⟨(some 4), none, .asn (.c (.bool false))⟩]) (
 .seq (
  .seq (
   .reg none [⟨(some 6), none, .mv (.t 0)⟩,
     ⟨(some 7), none, .len (.t 6)⟩,
     ⟨(some 8), none, .mv (.t 1)⟩,
     ⟨(some 9), none, .len (.t 8)⟩,
     ⟨(some 10), none, .bin .neq (.t 7) (.t 9)⟩]) (
  .cond (.t 10) (
   .seq (
    .reg none [⟨(some 4), none, .asn (.c (.bool false))⟩]) (
   .ret)) (
   .skip))) (
 .seq (
  .seq (
   .reg none [⟨(some 5), none, .asn (.c (.int .i64 (0)))⟩]) (
  .block 0 (
   .loop (some ([0, 1, 5], [0, 1, 5, 1000])) (
    .seq (
     .seq (
      .reg none [⟨(some 11), none, .mv (.t 5)⟩,
        ⟨(some 12), none, .mv (.t 0)⟩,
        ⟨(some 13), none, .len (.t 12)⟩,
        ⟨(some 14), none, .bin .lss (.t 11) (.t 13)⟩]) (
     .cond (.t 14) (
      .skip) (
      .exit 0))) (
    .seq (
     .block 1 (
      .seq (
       .drw none 10 [⟨(some 17), none, .mv (.t 0)⟩,
         ⟨(some 18), none, .mv (.t 5)⟩,
         ⟨(some 19), none, .iad 10 (.t 17) (.t 18)⟩,
         ⟨(some 20), none, .ld 10 true (.t 19)⟩,
         ⟨(some 21), none, .mv (.t 1)⟩,
         ⟨(some 22), none, .mv (.t 5)⟩,
         ⟨(some 23), none, .iad 10 (.t 21) (.t 22)⟩,
         ⟨(some 24), none, .ld 10 true (.t 23)⟩,
         ⟨(some 25), none, .call 97 [(.t 20), (.t 24)]⟩,
         ⟨(some 26), none, .not (.t 25)⟩]) (
      .cond (.t 26) (
       .seq (
        .reg none [⟨(some 4), none, .asn (.c (.bool false))⟩]) (
       .ret)) (
       .skip)))) (
    .reg none [⟨(some 15), none, .mv (.t 5)⟩,
      ⟨(some 16), none, .bin .add (.t 15) (.c (.int .i64 (1)))⟩,
      ⟨(some 5), none, .asn (.t 16)⟩])))))) (
 .seq (
  .reg none [⟨(some 4), none, .asn (.c (.bool true))⟩]) (
 .ret))))
def r_laws_eqJobS : Nat × List RV := (27, [.t 4])

theorem c_laws_eqJobS : cmpS PT PF PA (Try.prog.funcs[49]?) = some (r_laws_eqJobS.1, r_laws_eqJobS.2, stripK k_laws_eqJobS) := by kernel_rfl

theorem h_eqJobS (xs : List TJob) (hx : wL wJob xs < 2 ^ 40) : CallsF Try.prog 49 [.one (.ar false 0 10 (xs.map sJob)), .one (.ar false 0 10 (xs.map sJob))] (aB true) := by
  refine Prun c_laws_eqJobS (by simp [r_laws_eqJobS]) (by simp) ?_
  unfold k_laws_eqJobS r_laws_eqJobS
  have hlen := wL_len wJob xs
  simp
  refine awp_loop (fun n σ => ∃ i : Nat, i ≤ xs.length ∧ n = xs.length - i ∧ σ = ⟨[(0, .one (.ar false 0 10 (xs.map sJob))), (1, .one (.ar false 0 10 (xs.map sJob))), (5, aI i)], []⟩) (xs.length) ⟨0, by simp⟩ ?_
  rintro n σ ⟨i, hi, rfl, rfl⟩
  by_cases h : i < xs.length
  · have hw := wL_get wJob xs i h
    simp [h, sJob]
    refine ⟨_, by simp, h_eqJob xs[i] (by omega), ?_⟩
    simp
    refine ⟨xs.length - (i + 1), by omega, i + 1, by omega, rfl, ?_⟩
    rw [wrapI (by omega) (by omega)]
    simp
  · simp [h]
end Go.Am
-- Outcome_eq1
namespace Go.Am
open Go.Proofs
set_option maxHeartbeats 4000000
set_option maxRecDepth 100000
-- 71 loop.example/g00485/laws.eqOutcome
def k_laws_eqOutcome : K :=
 .seq (
  .reg none [⟨(some 2), none, .box 102 3 (.t 0)⟩,
    ⟨(some 3), none, .box 102 3 (.t 1)⟩,
    ⟨(some 4), none, .asn (.c (.bool false))⟩]) (
 .seq (
  .seq (
   .reg none [⟨(some 5), none, .fad 0 (.t 2)⟩,
     ⟨(some 6), none, .ld 1 false (.t 5)⟩,
     ⟨(some 7), none, .fad 0 (.t 3)⟩,
     ⟨(some 8), none, .ld 1 false (.t 7)⟩,
     ⟨(some 9), none, .bin .neq (.t 6) (.t 8)⟩]) (
  .cond (.t 9) (
   .seq (
    .reg none [⟨(some 4), none, .asn (.c (.bool false))⟩]) (
   .ret)) (
   .skip))) (
 .seq (
  .seq (
   .reg none [⟨(some 10), none, .fad 1 (.t 2)⟩,
     ⟨(some 11), none, .ld 1 false (.t 10)⟩,
     ⟨(some 12), none, .fad 1 (.t 3)⟩,
     ⟨(some 13), none, .ld 1 false (.t 12)⟩,
     ⟨(some 14), none, .bin .neq (.t 11) (.t 13)⟩]) (
  .cond (.t 14) (
   .seq (
    .reg none [⟨(some 4), none, .asn (.c (.bool false))⟩]) (
   .ret)) (
   .skip))) (
 .seq (
  .seq (
   .reg none [⟨(some 15), none, .fad 2 (.t 2)⟩,
     ⟨(some 16), none, .ld 1 false (.t 15)⟩,
     ⟨(some 17), none, .fad 2 (.t 3)⟩,
     ⟨(some 18), none, .ld 1 false (.t 17)⟩,
     ⟨(some 19), none, .bin .neq (.t 16) (.t 18)⟩]) (
  .cond (.t 19) (
   .seq (
    .reg none [⟨(some 4), none, .asn (.c (.bool false))⟩]) (
   .ret)) (
   .skip))) (
 .seq (
  .reg none [⟨(some 4), none, .asn (.c (.bool true))⟩]) (
 .ret)))))
def r_laws_eqOutcome : Nat × List RV := (20, [.t 4])

theorem c_laws_eqOutcome : cmpS PT PF PA (Try.prog.funcs[71]?) = some (r_laws_eqOutcome.1, r_laws_eqOutcome.2, stripK k_laws_eqOutcome) := by kernel_rfl

theorem h_eqOutcome (a : TOutcome) (ha : wOutcome a < 2 ^ 40) : CallsF Try.prog 71 [.agg (sOutcome a), .agg (sOutcome a)] (aB true) := by
  refine Prun c_laws_eqOutcome (by simp [r_laws_eqOutcome]) (by simp) ?_
  unfold k_laws_eqOutcome r_laws_eqOutcome
  simp only [wOutcome] at ha
  simp [sOutcome]
end Go.Am
-- Outcome_eq
namespace Go.Am
open Go.Proofs
set_option maxHeartbeats 4000000
set_option maxRecDepth 100000
-- 31 loop.example/g00485/laws.eqOutcomeS
def k_laws_eqOutcomeS : K :=
 .seq (
  .reg none [⟨(some 4), none, .asn (.c (.bool false))⟩]) (
 .seq (
  .seq (
   .reg none [⟨(some 6), none, .mv (.t 0)⟩,
     ⟨(some 7), none, .len (.t 6)⟩,
     ⟨(some 8), none, .mv (.t 1)⟩,
     ⟨(some 9), none, .len (.t 8)⟩,
     ⟨(some 10), none, .bin .neq (.t 7) (.t 9)⟩]) (
  .cond (.t 10) (
   .seq (
    .reg none [⟨(some 4), none, .asn (.c (.bool false))⟩]) (
   .ret)) (
   .skip))) (
 .seq (
  .seq (
   .reg none [⟨(some 5), none, .asn (.c (.int .i64 (0)))⟩]) (
  .block 0 (
   .loop (some ([0, 1, 5], [0, 1, 5, 1000])) (
    .seq (
     .seq (
      .reg none [⟨(some 11), none, .mv (.t 5)⟩,
        ⟨(some 12), none, .mv (.t 0)⟩,
        ⟨(some 13), none, .len (.t 12)⟩,
        ⟨(some 14), none, .bin .lss (.t 11) (.t 13)⟩]) (
     .cond (.t 14) (
      .skip) (
      .exit 0))) (
    .seq (
     .block 1 (
      .seq (
       .drw none 10 [⟨(some 17), none, .mv (.t 0)⟩,
         ⟨(some 18), none, .mv (.t 5)⟩,
         ⟨(some 19), none, .iad 3 (.t 17) (.t 18)⟩,
         ⟨(some 20), none, .ld 3 true (.t 19)⟩,
         ⟨(some 21), none, .mv (.t 1)⟩,
         ⟨(some 22), none, .mv (.t 5)⟩,
         ⟨(some 23), none, .iad 3 (.t 21) (.t 22)⟩,
         ⟨(some 24), none, .ld 3 true (.t 23)⟩,
         ⟨(some 25), none, .call 71 [(.t 20), (.t 24)]⟩,
         ⟨(some 26), none, .not (.t 25)⟩]) (
      .cond (.t 26) (
       .seq (
        .reg none [⟨(some 4), none, .asn (.c (.bool false))⟩]) (
       .ret)) (
       .skip)))) (
    .reg none [⟨(some 15), none, .mv (.t 5)⟩,
      ⟨(some 16), none, .bin .add (.t 15) (.c (.int .i64 (1)))⟩,
      ⟨(some 5), none, .asn (.t 16)⟩])))))) (
 .seq (
  .reg none [⟨(some 4), none, .asn (.c (.bool true))⟩]) (
 .ret))))
def r_laws_eqOutcomeS : Nat × List RV := (27, [.t 4])

theorem c_laws_eqOutcomeS : cmpS PT PF PA (Try.prog.funcs[31]?) = some (r_laws_eqOutcomeS.1, r_laws_eqOutcomeS.2, stripK k_laws_eqOutcomeS) := by kernel_rfl

theorem h_eqOutcomeS (xs : List TOutcome) (hx : wL wOutcome xs < 2 ^ 40) : CallsF Try.prog 31 [.one (.ar false 0 3 (xs.map sOutcome)), .one (.ar false 0 3 (xs.map sOutcome))] (aB true) := by
  refine Prun c_laws_eqOutcomeS (by simp [r_laws_eqOutcomeS]) (by simp) ?_
  unfold k_laws_eqOutcomeS r_laws_eqOutcomeS
  have hlen := wL_len wOutcome xs
  simp
  refine awp_loop (fun n σ => ∃ i : Nat, i ≤ xs.length ∧ n = xs.length - i ∧ σ = ⟨[(0, .one (.ar false 0 3 (xs.map sOutcome))), (1, .one (.ar false 0 3 (xs.map sOutcome))), (5, aI i)], []⟩) (xs.length) ⟨0, by simp⟩ ?_
  rintro n σ ⟨i, hi, rfl, rfl⟩
  by_cases h : i < xs.length
  · have hw := wL_get wOutcome xs i h
    simp [h, sOutcome]
    refine ⟨_, by simp, h_eqOutcome xs[i] (by omega), ?_⟩
    simp
    refine ⟨xs.length - (i + 1), by omega, i + 1, by omega, rfl, ?_⟩
    rw [wrapI (by omega) (by omega)]
    simp
  · simp [h]
end Go.Am
-- Tenant_eq1
namespace Go.Am
open Go.Proofs
set_option maxHeartbeats 4000000
set_option maxRecDepth 100000
-- 12 loop.example/g00485/laws.eqTenant
def k_laws_eqTenant : K :=
 .seq (
  .reg none [⟨(some 2), none, .box 25 10 (.t 0)⟩,
    ⟨(some 3), none, .box 25 10 (.t 1)⟩,
    ⟨(some 4), none, .asn (.c (.bool false))⟩]) (
 .seq (
  .seq (
   .reg none [⟨(some 5), none, .fad 0 (.t 2)⟩,
     ⟨(some 6), none, .ld 1 false (.t 5)⟩,
     ⟨(some 7), none, .fad 0 (.t 3)⟩,
     ⟨(some 8), none, .ld 1 false (.t 7)⟩,
     ⟨(some 9), none, .bin .neq (.t 6) (.t 8)⟩]) (
  .cond (.t 9) (
   .seq (
    .reg none [⟨(some 4), none, .asn (.c (.bool false))⟩]) (
   .ret)) (
   .skip))) (
 .seq (
  .seq (
   .reg none [⟨(some 10), none, .fad 1 (.t 2)⟩,
     ⟨(some 11), none, .ld 1 false (.t 10)⟩,
     ⟨(some 12), none, .fad 1 (.t 3)⟩,
     ⟨(some 13), none, .ld 1 false (.t 12)⟩,
     ⟨(some 14), none, .bin .neq (.t 11) (.t 13)⟩]) (
  .cond (.t 14) (
   .seq (
    .reg none [⟨(some 4), none, .asn (.c (.bool false))⟩]) (
   .ret)) (
   .skip))) (
 .seq (
  .seq (
   .reg none [⟨(some 15), none, .fad 2 (.t 2)⟩,
     ⟨(some 16), none, .ld 1 false (.t 15)⟩,
     ⟨(some 17), none, .fad 2 (.t 3)⟩,
     ⟨(some 18), none, .ld 1 false (.t 17)⟩,
     ⟨(some 19), none, .bin .neq (.t 16) (.t 18)⟩]) (
  .cond (.t 19) (
   .seq (
    .reg none [⟨(some 4), none, .asn (.c (.bool false))⟩]) (
   .ret)) (
   .skip))) (
 .seq (
  .seq (
   .reg none [⟨(some 20), none, .fad 3 (.t 2)⟩,
     ⟨(some 21), none, .ld 1 false (.t 20)⟩,
     ⟨(some 22), none, .fad 3 (.t 3)⟩,
     ⟨(some 23), none, .ld 1 false (.t 22)⟩,
     ⟨(some 24), none, .bin .neq (.t 21) (.t 23)⟩]) (
  .cond (.t 24) (
   .seq (
    .reg none [⟨(some 4), none, .asn (.c (.bool false))⟩]) (
   .ret)) (
   .skip))) (
 .seq (
  .seq (
   .reg none [⟨(some 25), none, .fad 4 (.t 2)⟩,
     ⟨(some 26), none, .ld 1 false (.t 25)⟩,
     ⟨(some 27), none, .fad 4 (.t 3)⟩,
     ⟨(some 28), none, .ld 1 false (.t 27)⟩,
     ⟨(some 29), none, .bin .neq (.t 26) (.t 28)⟩]) (
  .cond (.t 29) (
   .seq (
    .reg none [⟨(some 4), none, .asn (.c (.bool false))⟩]) (
   .ret)) (
   .skip))) (
 .seq (
  .seq (
   .reg none [⟨(some 30), none, .fad 5 (.t 2)⟩,
     ⟨(some 31), none, .ld 1 false (.t 30)⟩,
     ⟨(some 32), none, .fad 5 (.t 3)⟩,
     ⟨(some 33), none, .ld 1 false (.t 32)⟩,
     ⟨(some 34), none, .bin .neq (.t 31) (.t 33)⟩]) (
  .cond (.t 34) (
   .seq (
    .reg none [⟨(some 4), none, .asn (.c (.bool false))⟩]) (
   .ret)) (
   .skip))) (
 .seq (
  .seq (
   .reg none [⟨(some 35), none, .fad 6 (.t 2)⟩,
     ⟨(some 36), none, .ld 1 false (.t 35)⟩,
     ⟨(some 37), none, .fad 6 (.t 3)⟩,
     ⟨(some 38), none, .ld 1 false (.t 37)⟩,
     ⟨(some 39), none, .bin .neq (.t 36) (.t 38)⟩]) (
  .cond (.t 39) (
   .seq (
    .reg none [⟨(some 4), none, .asn (.c (.bool false))⟩]) (
   .ret)) (
   .skip))) (
 .seq (
  .seq (
   .reg none [⟨(some 40), none, .fad 7 (.t 2)⟩,
     ⟨(some 41), none, .ld 1 false (.t 40)⟩,
     ⟨(some 42), none, .fad 7 (.t 3)⟩,
     ⟨(some 43), none, .ld 1 false (.t 42)⟩,
     ⟨(some 44), none, .bin .neq (.t 41) (.t 43)⟩]) (
  .cond (.t 44) (
   .seq (
    .reg none [⟨(some 4), none, .asn (.c (.bool false))⟩]) (
   .ret)) (
   .skip))) (
 .seq (
  .seq (
   .reg none [⟨(some 45), none, .fad 8 (.t 2)⟩,
     ⟨(some 46), none, .ld 1 false (.t 45)⟩,
     ⟨(some 47), none, .fad 8 (.t 3)⟩,
     ⟨(some 48), none, .ld 1 false (.t 47)⟩,
     ⟨(some 49), none, .call 49 [(.t 46), (.t 48)]⟩,
     ⟨(some 50), none, .not (.t 49)⟩]) (
  .cond (.t 50) (
   .seq (
    .reg none [⟨(some 4), none, .asn (.c (.bool false))⟩]) (
   .ret)) (
   .skip))) (
 .seq (
  .seq (
   .reg none [⟨(some 51), none, .fad 9 (.t 2)⟩,
     ⟨(some 52), none, .ld 1 false (.t 51)⟩,
     ⟨(some 53), none, .fad 9 (.t 3)⟩,
     ⟨(some 54), none, .ld 1 false (.t 53)⟩,
     ⟨(some 55), none, .call 31 [(.t 52), (.t 54)]⟩,
     ⟨(some 56), none, .not (.t 55)⟩]) (
  .cond (.t 56) (
   .seq (
    .reg none [⟨(some 4), none, .asn (.c (.bool false))⟩]) (
   .ret)) (
   .skip))) (
 .seq (
  .reg none [⟨(some 4), none, .asn (.c (.bool true))⟩]) (
 .ret))))))))))))
def r_laws_eqTenant : Nat × List RV := (57, [.t 4])

theorem c_laws_eqTenant : cmpS PT PF PA (Try.prog.funcs[12]?) = some (r_laws_eqTenant.1, r_laws_eqTenant.2, stripK k_laws_eqTenant) := by kernel_rfl

theorem h_eqTenant (a : TTenant) (ha : wTenant a < 2 ^ 40) : CallsF Try.prog 12 [.agg (sTenant a), .agg (sTenant a)] (aB true) := by
  refine Prun c_laws_eqTenant (by simp [r_laws_eqTenant]) (by simp) ?_
  unfold k_laws_eqTenant r_laws_eqTenant
  simp only [wTenant] at ha
  simp [sTenant]
  refine callG_F (h_eqJobS a.queue (by omega)) (by simp) ?_
  simp
  refine callG_F (h_eqOutcomeS a.out (by omega)) (by simp) ?_
  simp
end Go.Am
-- intk
namespace Go.Am
open Go.Proofs
set_option maxHeartbeats 4000000
set_option maxRecDepth 100000
-- 24 loop.example/g00485/laws.markIntS
def k_laws_markIntS : K :=
 .seq (
  .reg none [⟨(some 4), none, .asn (.c (.int .i64 (0)))⟩]) (
 .seq (
  .seq (
   .reg none [⟨(some 5), none, .asn (.c (.int .i64 (0)))⟩]) (
  .block 0 (
   .loop (some ([0, 1, 5], [0, 1, 5, 1000])) (
    .seq (
     .seq (
      .reg none [⟨(some 6), none, .mv (.t 5)⟩,
        ⟨(some 7), none, .mv (.t 0)⟩,
        ⟨(some 8), none, .len (.t 7)⟩,
        ⟨(some 9), none, .bin .lss (.t 6) (.t 8)⟩]) (
     .cond (.t 9) (
      .skip) (
      .exit 0))) (
    .seq (
     .block 1 (
      .seq (
       .reg none [⟨(some 12), none, .mv (.t 0)⟩,
         ⟨(some 13), none, .mv (.t 5)⟩,
         ⟨(some 14), none, .mv (.t 1)⟩,
         ⟨(some 15), none, .iad 1 (.t 12) (.t 13)⟩,
         ⟨none, none, .st 1 false (.t 15) (.t 14)⟩]) (
      .reg none [⟨(some 16), none, .mv (.t 1)⟩,
        ⟨(some 17), none, .bin .add (.t 16) (.c (.int .i64 (1)))⟩,
        ⟨(some 1), none, .asn (.t 17)⟩]))) (
    .reg none [⟨(some 10), none, .mv (.t 5)⟩,
      ⟨(some 11), none, .bin .add (.t 10) (.c (.int .i64 (1)))⟩,
      ⟨(some 5), none, .asn (.t 11)⟩])))))) (
 .seq (
  .reg none [⟨(some 18), none, .mv (.t 1)⟩,
    ⟨(some 4), none, .asn (.t 18)⟩]) (
 .ret)))
def r_laws_markIntS : Nat × List RV := (19, [.t 4])

theorem c_laws_markIntS : cmpS PT PF PB (Try.prog.funcs[24]?) = some (r_laws_markIntS.1, r_laws_markIntS.2, stripK k_laws_markIntS) := by kernel_rfl

theorem h_markIntS (t : Nat) (xs : List Int) (k : Int) (hk : 0 ≤ k) (hk2 : k + mI.nL xs < 2 ^ 50) :
    CallsB Try.prog 24 [.one (.vw t 1 1000 [] 0 xs.length), aI k] ⟨t, 1, xs.map rI⟩ ⟨t, 1, (mI.mkL xs k).map rI⟩ (aI (k + mI.nL xs)) := by
  refine PrunB c_laws_markIntS (by simp [r_laws_markIntS]) (by simp) ?_
  unfold k_laws_markIntS r_laws_markIntS
  have hn : (mI.nL xs : Int) = xs.length := by simp [mI_n]
  simp
  refine awp_loop (fun n σ => ∃ i : Nat, i ≤ xs.length ∧ n = xs.length - i ∧ σ = ⟨[(0, .one (.vw t 1 1000 [] 0 xs.length)), (1, aI (mI.pos xs k i)), (5, aI i)], [(1000, ⟨t, 1, (mI.upto xs k i).map rI⟩)]⟩) (xs.length) ⟨0, by simp [Mk.upto_zero, Mk.pos_zero]⟩ ?_
  rintro n σ ⟨i, hi, rfl, rfl⟩
  have hp1 : mI.pos xs k i ≤ k + mI.nL xs := Mk.pos_le hi
  have hp2 : k ≤ mI.pos xs k i := Mk.pos_ge
  by_cases h : i < xs.length
  · have hpst : mI.pos xs k (i + 1) = mI.pos xs k i + 1 := Mk.pos_step h
    have hst := Mk.upto_set (M := mI) (k := k) h
    have hle : mI.pos xs k (i + 1) ≤ k + mI.nL xs := Mk.pos_le h
    have w1 : IntKind.i64.wrap (mI.pos xs k i + 1) = mI.pos xs k (i + 1) := by rw [wrapI (by omega) (by omega), hpst]
    have w2 : IntKind.i64.wrap ((i : Int) + 1) = i + 1 := wrapI (by omega) (by omega)
    simp [h, w1, w2]
    refine ⟨xs.length - (i + 1), by omega, i + 1, by omega, rfl, ?_⟩
    rw [← hst]
    simp
  · have : i = xs.length := by omega
    subst this
    simp [Mk.upto_all, Mk.pos_all]
end Go.Am
-- Err_mk
namespace Go.Am
open Go.Proofs
set_option maxHeartbeats 4000000
set_option maxRecDepth 100000
-- 100 loop.example/g00485/laws.markErrS
def k_laws_markErrS : K :=
 .seq (
  .reg none [⟨(some 4), none, .asn (.c (.int .i64 (0)))⟩]) (
 .seq (
  .seq (
   .reg none [⟨(some 5), none, .asn (.c (.int .i64 (0)))⟩]) (
  .block 0 (
   .loop (some ([0, 1, 5], [0, 1, 5, 1000])) (
    .seq (
     .seq (
      .reg none [⟨(some 6), none, .mv (.t 5)⟩,
        ⟨(some 7), none, .mv (.t 0)⟩,
        ⟨(some 8), none, .len (.t 7)⟩,
        ⟨(some 9), none, .bin .lss (.t 6) (.t 8)⟩]) (
     .cond (.t 9) (
      .skip) (
      .exit 0))) (
    .seq (
     .block 1 (
      .seq (
       .reg none [⟨(some 12), none, .mv (.t 0)⟩,
         ⟨(some 13), none, .mv (.t 5)⟩,
         ⟨(some 14), none, .mv (.t 1)⟩,
         ⟨(some 15), none, .iad 3 (.t 12) (.t 13)⟩,
         ⟨(some 16), none, .fad 0 (.t 15)⟩,
         ⟨none, none, .st 1 false (.t 16) (.t 14)⟩]) (
      .seq (
       .reg none [⟨(some 17), none, .mv (.t 1)⟩,
         ⟨(some 18), none, .bin .add (.t 17) (.c (.int .i64 (1)))⟩,
         ⟨(some 1), none, .asn (.t 18)⟩]) (
      .seq (
       .reg none [⟨(some 19), none, .mv (.t 0)⟩,
         ⟨(some 20), none, .mv (.t 5)⟩,
         ⟨(some 21), none, .mv (.t 1)⟩,
         ⟨(some 22), none, .iad 3 (.t 19) (.t 20)⟩,
         ⟨(some 23), none, .fad 1 (.t 22)⟩,
         ⟨none, none, .st 1 false (.t 23) (.t 21)⟩]) (
      .seq (
       .reg none [⟨(some 24), none, .mv (.t 1)⟩,
         ⟨(some 25), none, .bin .add (.t 24) (.c (.int .i64 (1)))⟩,
         ⟨(some 1), none, .asn (.t 25)⟩]) (
      .seq (
       .reg none [⟨(some 26), none, .mv (.t 0)⟩,
         ⟨(some 27), none, .mv (.t 5)⟩,
         ⟨(some 28), none, .mv (.t 1)⟩,
         ⟨(some 29), none, .iad 3 (.t 26) (.t 27)⟩,
         ⟨(some 30), none, .fad 2 (.t 29)⟩,
         ⟨none, none, .st 1 false (.t 30) (.t 28)⟩]) (
      .reg none [⟨(some 31), none, .mv (.t 1)⟩,
        ⟨(some 32), none, .bin .add (.t 31) (.c (.int .i64 (1)))⟩,
        ⟨(some 1), none, .asn (.t 32)⟩]))))))) (
    .reg none [⟨(some 10), none, .mv (.t 5)⟩,
      ⟨(some 11), none, .bin .add (.t 10) (.c (.int .i64 (1)))⟩,
      ⟨(some 5), none, .asn (.t 11)⟩])))))) (
 .seq (
  .reg none [⟨(some 33), none, .mv (.t 1)⟩,
    ⟨(some 4), none, .asn (.t 33)⟩]) (
 .ret)))
def r_laws_markErrS : Nat × List RV := (34, [.t 4])

theorem c_laws_markErrS : cmpS PT PF PB (Try.prog.funcs[100]?) = some (r_laws_markErrS.1, r_laws_markErrS.2, stripK k_laws_markErrS) := by kernel_rfl

theorem h_markErrS (t : Nat) (xs : List TErr) (k : Int) (hk : 0 ≤ k) (hk2 : k + mErr.nL xs < 2 ^ 50) (hk3 : wL wErr xs < 2 ^ 50) :
    CallsB Try.prog 100 [.one (.vw t 3 1000 [] 0 xs.length), aI k] ⟨t, 3, xs.map rErr⟩ ⟨t, 3, (mErr.mkL xs k).map rErr⟩ (aI (k + mErr.nL xs)) := by
  refine PrunB c_laws_markErrS (by simp [r_laws_markErrS]) (by simp) ?_
  unfold k_laws_markErrS r_laws_markErrS
  have hlen := wL_len wErr xs
  simp
  refine awp_loop (fun n σ => ∃ i : Nat, i ≤ xs.length ∧ n = xs.length - i ∧ σ = ⟨[(0, .one (.vw t 3 1000 [] 0 xs.length)), (1, aI (mErr.pos xs k i)), (5, aI i)], [(1000, ⟨t, 3, (mErr.upto xs k i).map rErr⟩)]⟩) (xs.length) ⟨0, by simp [Mk.upto_zero, Mk.pos_zero]⟩ ?_
  rintro n σ ⟨i, hi, rfl, rfl⟩
  have hp1 : mErr.pos xs k i ≤ k + mErr.nL xs := Mk.pos_le hi
  have hp2 : k ≤ mErr.pos xs k i := Mk.pos_ge
  by_cases h : i < xs.length
  · have hw := wL_get wErr xs i h
    have hpst : mErr.pos xs k (i + 1) = mErr.pos xs k i + mErr.n xs[i] := Mk.pos_step h
    have hle : mErr.pos xs k (i + 1) ≤ k + mErr.nL xs := Mk.pos_le h
    have hst := Mk.upto_set (M := mErr) (k := k) h
    have hga := Mk.upto_at (M := mErr) (k := k) h
    have hll := Mk.upto_len (M := mErr) (xs := xs) (k := k) (i := i)
    generalize mErr.upto xs k i = us at *
    generalize hκ : mErr.pos xs k i = p0 at *
    rcases ha : xs[i] with ⟨bkind, bpos, bsym⟩
    simp only [ha, mErr_n, mErr_wr] at hpst hga hst
    simp only [ha, wErr] at hw
    obtain ⟨p1, hq1⟩ : ∃ p : Int, p = p0 + 1 := ⟨_, rfl⟩
    have ww0 : IntKind.i64.wrap (p0 + 1) = p1 := by rw [wrapI (by omega) (by omega), hq1]
    have nn0 : ¬ p1 < 0 := by omega
    obtain ⟨p2, hq2⟩ : ∃ p : Int, p = p1 + 1 := ⟨_, rfl⟩
    have ww1 : IntKind.i64.wrap (p1 + 1) = p2 := by rw [wrapI (by omega) (by omega), hq2]
    have nn1 : ¬ p2 < 0 := by omega
    obtain ⟨p3, hq3⟩ : ∃ p : Int, p = p2 + 1 := ⟨_, rfl⟩
    have ww2 : IntKind.i64.wrap (p2 + 1) = p3 := by rw [wrapI (by omega) (by omega), hq3]
    have nn2 : ¬ p3 < 0 := by omega
    simp only [← hq1, ← hq2, ← hq3] at hga hst
    simp [h, hga, hll, rErr, ww0, nn0, ww1, nn1, ww2, nn2]
    refine ⟨xs.length - (i + 1), by omega, i + 1, by omega, rfl, ?_⟩
    rw [wrapI (by omega) (by omega)]
    rw [← hst]
    simp [rErr]
    omega
  · have : i = xs.length := by omega
    subst this
    simp [Mk.upto_all, Mk.pos_all]
end Go.Am
-- Node_mk
namespace Go.Am
open Go.Proofs
set_option maxHeartbeats 4000000
set_option maxRecDepth 100000
-- 99 loop.example/g00485/laws.markNodeS
def k_laws_markNodeS : K :=
 .seq (
  .reg none [⟨(some 4), none, .asn (.c (.int .i64 (0)))⟩]) (
 .seq (
  .seq (
   .reg none [⟨(some 5), none, .asn (.c (.int .i64 (0)))⟩]) (
  .block 0 (
   .loop (some ([0, 1, 5], [0, 1, 5, 1000])) (
    .seq (
     .seq (
      .reg none [⟨(some 6), none, .mv (.t 5)⟩,
        ⟨(some 7), none, .mv (.t 0)⟩,
        ⟨(some 8), none, .len (.t 7)⟩,
        ⟨(some 9), none, .bin .lss (.t 6) (.t 8)⟩]) (
     .cond (.t 9) (
      .skip) (
      .exit 0))) (
    .seq (
     .block 1 (
      .seq (
       .reg none [⟨(some 12), none, .mv (.t 0)⟩,
         ⟨(some 13), none, .mv (.t 5)⟩,
         ⟨(some 14), none, .mv (.t 1)⟩,
         ⟨(some 15), none, .iad 5 (.t 12) (.t 13)⟩,
         ⟨(some 16), none, .fad 0 (.t 15)⟩,
         ⟨none, none, .st 1 false (.t 16) (.t 14)⟩]) (
      .seq (
       .reg none [⟨(some 17), none, .mv (.t 1)⟩,
         ⟨(some 18), none, .bin .add (.t 17) (.c (.int .i64 (1)))⟩,
         ⟨(some 1), none, .asn (.t 18)⟩]) (
      .seq (
       .reg none [⟨(some 19), none, .mv (.t 0)⟩,
         ⟨(some 20), none, .mv (.t 5)⟩,
         ⟨(some 21), none, .mv (.t 1)⟩,
         ⟨(some 22), none, .iad 5 (.t 19) (.t 20)⟩,
         ⟨(some 23), none, .fad 1 (.t 22)⟩,
         ⟨none, none, .st 1 false (.t 23) (.t 21)⟩]) (
      .seq (
       .reg none [⟨(some 24), none, .mv (.t 1)⟩,
         ⟨(some 25), none, .bin .add (.t 24) (.c (.int .i64 (1)))⟩,
         ⟨(some 1), none, .asn (.t 25)⟩]) (
      .seq (
       .reg none [⟨(some 26), none, .mv (.t 0)⟩,
         ⟨(some 27), none, .mv (.t 5)⟩,
         ⟨(some 28), none, .mv (.t 1)⟩,
         ⟨(some 29), none, .iad 5 (.t 26) (.t 27)⟩,
         ⟨(some 30), none, .fad 2 (.t 29)⟩,
         ⟨none, none, .st 1 false (.t 30) (.t 28)⟩]) (
      .seq (
       .reg none [⟨(some 31), none, .mv (.t 1)⟩,
         ⟨(some 32), none, .bin .add (.t 31) (.c (.int .i64 (1)))⟩,
         ⟨(some 1), none, .asn (.t 32)⟩]) (
      .seq (
       .reg none [⟨(some 33), none, .mv (.t 0)⟩,
         ⟨(some 34), none, .mv (.t 5)⟩,
         ⟨(some 35), none, .mv (.t 1)⟩,
         ⟨(some 36), none, .iad 5 (.t 33) (.t 34)⟩,
         ⟨(some 37), none, .fad 3 (.t 36)⟩,
         ⟨none, none, .st 1 false (.t 37) (.t 35)⟩]) (
      .seq (
       .reg none [⟨(some 38), none, .mv (.t 1)⟩,
         ⟨(some 39), none, .bin .add (.t 38) (.c (.int .i64 (1)))⟩,
         ⟨(some 1), none, .asn (.t 39)⟩]) (
      .reg none [⟨(some 40), none, .mv (.t 0)⟩,
        ⟨(some 41), none, .mv (.t 5)⟩,
        ⟨(some 42), none, .iad 5 (.t 40) (.t 41)⟩,
        ⟨(some 43), none, .fad 4 (.t 42)⟩,
        ⟨(some 44), none, .ld 1 false (.t 43)⟩,
        ⟨(some 45), none, .mv (.t 1)⟩,
        ⟨(some 46), none, .callr 24 (.t 44) [(.t 44), (.t 45)]⟩,
        ⟨(some 1), none, .asn (.t 46)⟩])))))))))) (
    .reg none [⟨(some 10), none, .mv (.t 5)⟩,
      ⟨(some 11), none, .bin .add (.t 10) (.c (.int .i64 (1)))⟩,
      ⟨(some 5), none, .asn (.t 11)⟩])))))) (
 .seq (
  .reg none [⟨(some 47), none, .mv (.t 1)⟩,
    ⟨(some 4), none, .asn (.t 47)⟩]) (
 .ret)))
def r_laws_markNodeS : Nat × List RV := (48, [.t 4])

theorem c_laws_markNodeS : cmpS PT PF PB (Try.prog.funcs[99]?) = some (r_laws_markNodeS.1, r_laws_markNodeS.2, stripK k_laws_markNodeS) := by kernel_rfl

theorem h_markNodeS (t : Nat) (xs : List TNode) (k : Int) (hk : 0 ≤ k) (hk2 : k + mNode.nL xs < 2 ^ 50) (hk3 : wL wNode xs < 2 ^ 50) :
    CallsB Try.prog 99 [.one (.vw t 5 1000 [] 0 xs.length), aI k] ⟨t, 5, xs.map rNode⟩ ⟨t, 5, (mNode.mkL xs k).map rNode⟩ (aI (k + mNode.nL xs)) := by
  refine PrunB c_laws_markNodeS (by simp [r_laws_markNodeS]) (by simp) ?_
  unfold k_laws_markNodeS r_laws_markNodeS
  have hlen := wL_len wNode xs
  simp
  refine awp_loop (fun n σ => ∃ i : Nat, i ≤ xs.length ∧ n = xs.length - i ∧ σ = ⟨[(0, .one (.vw t 5 1000 [] 0 xs.length)), (1, aI (mNode.pos xs k i)), (5, aI i)], [(1000, ⟨t, 5, (mNode.upto xs k i).map rNode⟩)]⟩) (xs.length) ⟨0, by simp [Mk.upto_zero, Mk.pos_zero]⟩ ?_
  rintro n σ ⟨i, hi, rfl, rfl⟩
  have hp1 : mNode.pos xs k i ≤ k + mNode.nL xs := Mk.pos_le hi
  have hp2 : k ≤ mNode.pos xs k i := Mk.pos_ge
  by_cases h : i < xs.length
  · have hw := wL_get wNode xs i h
    have hpst : mNode.pos xs k (i + 1) = mNode.pos xs k i + mNode.n xs[i] := Mk.pos_step h
    have hle : mNode.pos xs k (i + 1) ≤ k + mNode.nL xs := Mk.pos_le h
    have hst := Mk.upto_set (M := mNode) (k := k) h
    have hga := Mk.upto_at (M := mNode) (k := k) h
    have hll := Mk.upto_len (M := mNode) (xs := xs) (k := k) (i := i)
    generalize mNode.upto xs k i = us at *
    generalize hκ : mNode.pos xs k i = p0 at *
    rcases ha : xs[i] with ⟨bkind, bsym, balt, bpos, bkids⟩
    simp only [ha, mNode_n, mNode_wr] at hpst hga hst
    simp only [ha, wNode] at hw
    obtain ⟨p1, hq1⟩ : ∃ p : Int, p = p0 + 1 := ⟨_, rfl⟩
    have ww0 : IntKind.i64.wrap (p0 + 1) = p1 := by rw [wrapI (by omega) (by omega), hq1]
    have nn0 : ¬ p1 < 0 := by omega
    obtain ⟨p2, hq2⟩ : ∃ p : Int, p = p1 + 1 := ⟨_, rfl⟩
    have ww1 : IntKind.i64.wrap (p1 + 1) = p2 := by rw [wrapI (by omega) (by omega), hq2]
    have nn1 : ¬ p2 < 0 := by omega
    obtain ⟨p3, hq3⟩ : ∃ p : Int, p = p2 + 1 := ⟨_, rfl⟩
    have ww2 : IntKind.i64.wrap (p2 + 1) = p3 := by rw [wrapI (by omega) (by omega), hq3]
    have nn2 : ¬ p3 < 0 := by omega
    obtain ⟨p4, hq4⟩ : ∃ p : Int, p = p3 + 1 := ⟨_, rfl⟩
    have ww3 : IntKind.i64.wrap (p3 + 1) = p4 := by rw [wrapI (by omega) (by omega), hq4]
    have nn3 : ¬ p4 < 0 := by omega
    obtain ⟨p5, hq5⟩ : ∃ p : Int, p = p4 + (mI.nL bkids : Int) := ⟨_, rfl⟩
    have nn4 : ¬ p5 < 0 := by omega
    simp only [← hq1, ← hq2, ← hq3, ← hq4, ← hq5] at hga hst
    simp [h, hga, hll, rNode, ww0, nn0, ww1, nn1, ww2, nn2, ww3, nn3, nn4]
    have hc4 := h_markIntS 3 bkids p4 (by omega) (by omega)
    rw [← hq5] at hc4
    refine callRG_F hc4 rfl rfl (by simp) (by simp) ?_
    simp [h, hga, hll, rNode, ww0, nn0, ww1, nn1, ww2, nn2, ww3, nn3, nn4]
    refine ⟨xs.length - (i + 1), by omega, i + 1, by omega, rfl, ?_⟩
    rw [wrapI (by omega) (by omega)]
    rw [← hst]
    simp [rNode]
    omega
  · have : i = xs.length := by omega
    subst this
    simp [Mk.upto_all, Mk.pos_all]
end Go.Am
-- Slot_mk
namespace Go.Am
open Go.Proofs
set_option maxHeartbeats 4000000
set_option maxRecDepth 100000
-- 98 loop.example/g00485/laws.markSlotS
def k_laws_markSlotS : K :=
 .seq (
  .reg none [⟨(some 4), none, .asn (.c (.int .i64 (0)))⟩]) (
 .seq (
  .seq (
   .reg none [⟨(some 5), none, .asn (.c (.int .i64 (0)))⟩]) (
  .block 0 (
   .loop (some ([0, 1, 5], [0, 1, 5, 1000])) (
    .seq (
     .seq (
      .reg none [⟨(some 6), none, .mv (.t 5)⟩,
        ⟨(some 7), none, .mv (.t 0)⟩,
        ⟨(some 8), none, .len (.t 7)⟩,
        ⟨(some 9), none, .bin .lss (.t 6) (.t 8)⟩]) (
     .cond (.t 9) (
      .skip) (
      .exit 0))) (
    .seq (
     .block 1 (
      .seq (
       .reg none [⟨(some 12), none, .mv (.t 0)⟩,
         ⟨(some 13), none, .mv (.t 5)⟩,
         ⟨(some 14), none, .mv (.t 1)⟩,
         ⟨(some 15), none, .iad 2 (.t 12) (.t 13)⟩,
         ⟨(some 16), none, .fad 0 (.t 15)⟩,
         ⟨none, none, .st 1 false (.t 16) (.t 14)⟩]) (
      .seq (
       .reg none [⟨(some 17), none, .mv (.t 1)⟩,
         ⟨(some 18), none, .bin .add (.t 17) (.c (.int .i64 (1)))⟩,
         ⟨(some 1), none, .asn (.t 18)⟩]) (
      .seq (
       .reg none [⟨(some 19), none, .mv (.t 0)⟩,
         ⟨(some 20), none, .mv (.t 5)⟩,
         ⟨(some 21), none, .mv (.t 1)⟩,
         ⟨(some 22), none, .iad 2 (.t 19) (.t 20)⟩,
         ⟨(some 23), none, .fad 1 (.t 22)⟩,
         ⟨none, none, .st 1 false (.t 23) (.t 21)⟩]) (
      .reg none [⟨(some 24), none, .mv (.t 1)⟩,
        ⟨(some 25), none, .bin .add (.t 24) (.c (.int .i64 (1)))⟩,
        ⟨(some 1), none, .asn (.t 25)⟩]))))) (
    .reg none [⟨(some 10), none, .mv (.t 5)⟩,
      ⟨(some 11), none, .bin .add (.t 10) (.c (.int .i64 (1)))⟩,
      ⟨(some 5), none, .asn (.t 11)⟩])))))) (
 .seq (
  .reg none [⟨(some 26), none, .mv (.t 1)⟩,
    ⟨(some 4), none, .asn (.t 26)⟩]) (
 .ret)))
def r_laws_markSlotS : Nat × List RV := (27, [.t 4])

theorem c_laws_markSlotS : cmpS PT PF PB (Try.prog.funcs[98]?) = some (r_laws_markSlotS.1, r_laws_markSlotS.2, stripK k_laws_markSlotS) := by kernel_rfl

theorem h_markSlotS (t : Nat) (xs : List TSlot) (k : Int) (hk : 0 ≤ k) (hk2 : k + mSlot.nL xs < 2 ^ 50) (hk3 : wL wSlot xs < 2 ^ 50) :
    CallsB Try.prog 98 [.one (.vw t 2 1000 [] 0 xs.length), aI k] ⟨t, 2, xs.map rSlot⟩ ⟨t, 2, (mSlot.mkL xs k).map rSlot⟩ (aI (k + mSlot.nL xs)) := by
  refine PrunB c_laws_markSlotS (by simp [r_laws_markSlotS]) (by simp) ?_
  unfold k_laws_markSlotS r_laws_markSlotS
  have hlen := wL_len wSlot xs
  simp
  refine awp_loop (fun n σ => ∃ i : Nat, i ≤ xs.length ∧ n = xs.length - i ∧ σ = ⟨[(0, .one (.vw t 2 1000 [] 0 xs.length)), (1, aI (mSlot.pos xs k i)), (5, aI i)], [(1000, ⟨t, 2, (mSlot.upto xs k i).map rSlot⟩)]⟩) (xs.length) ⟨0, by simp [Mk.upto_zero, Mk.pos_zero]⟩ ?_
  rintro n σ ⟨i, hi, rfl, rfl⟩
  have hp1 : mSlot.pos xs k i ≤ k + mSlot.nL xs := Mk.pos_le hi
  have hp2 : k ≤ mSlot.pos xs k i := Mk.pos_ge
  by_cases h : i < xs.length
  · have hw := wL_get wSlot xs i h
    have hpst : mSlot.pos xs k (i + 1) = mSlot.pos xs k i + mSlot.n xs[i] := Mk.pos_step h
    have hle : mSlot.pos xs k (i + 1) ≤ k + mSlot.nL xs := Mk.pos_le h
    have hst := Mk.upto_set (M := mSlot) (k := k) h
    have hga := Mk.upto_at (M := mSlot) (k := k) h
    have hll := Mk.upto_len (M := mSlot) (xs := xs) (k := k) (i := i)
    generalize mSlot.upto xs k i = us at *
    generalize hκ : mSlot.pos xs k i = p0 at *
    rcases ha : xs[i] with ⟨bsym, bup⟩
    simp only [ha, mSlot_n, mSlot_wr] at hpst hga hst
    simp only [ha, wSlot] at hw
    obtain ⟨p1, hq1⟩ : ∃ p : Int, p = p0 + 1 := ⟨_, rfl⟩
    have ww0 : IntKind.i64.wrap (p0 + 1) = p1 := by rw [wrapI (by omega) (by omega), hq1]
    have nn0 : ¬ p1 < 0 := by omega
    obtain ⟨p2, hq2⟩ : ∃ p : Int, p = p1 + 1 := ⟨_, rfl⟩
    have ww1 : IntKind.i64.wrap (p1 + 1) = p2 := by rw [wrapI (by omega) (by omega), hq2]
    have nn1 : ¬ p2 < 0 := by omega
    simp only [← hq1, ← hq2] at hga hst
    simp [h, hga, hll, rSlot, ww0, nn0, ww1, nn1]
    refine ⟨xs.length - (i + 1), by omega, i + 1, by omega, rfl, ?_⟩
    rw [wrapI (by omega) (by omega)]
    rw [← hst]
    simp [rSlot]
    omega
  · have : i = xs.length := by omega
    subst this
    simp [Mk.upto_all, Mk.pos_all]
end Go.Am
-- Job_mk
namespace Go.Am
open Go.Proofs
set_option maxHeartbeats 4000000
set_option maxRecDepth 100000
-- 50 loop.example/g00485/laws.markJobS
def k_laws_markJobS : K :=
 .seq (
  .reg none [⟨(some 4), none, .asn (.c (.int .i64 (0)))⟩]) (
 .seq (
  .seq (
   .reg none [⟨(some 5), none, .asn (.c (.int .i64 (0)))⟩]) (
  .block 0 (
   .loop (some ([0, 1, 5], [0, 1, 5, 1000])) (
    .seq (
     .seq (
      .reg none [⟨(some 6), none, .mv (.t 5)⟩,
        ⟨(some 7), none, .mv (.t 0)⟩,
        ⟨(some 8), none, .len (.t 7)⟩,
        ⟨(some 9), none, .bin .lss (.t 6) (.t 8)⟩]) (
     .cond (.t 9) (
      .skip) (
      .exit 0))) (
    .seq (
     .block 1 (
      .seq (
       .reg none [⟨(some 12), none, .mv (.t 0)⟩,
         ⟨(some 13), none, .mv (.t 5)⟩,
         ⟨(some 14), none, .mv (.t 1)⟩,
         ⟨(some 15), none, .iad 10 (.t 12) (.t 13)⟩,
         ⟨(some 16), none, .fad 0 (.t 15)⟩,
         ⟨none, none, .st 1 false (.t 16) (.t 14)⟩]) (
      .seq (
       .reg none [⟨(some 17), none, .mv (.t 1)⟩,
         ⟨(some 18), none, .bin .add (.t 17) (.c (.int .i64 (1)))⟩,
         ⟨(some 1), none, .asn (.t 18)⟩]) (
      .seq (
       .reg none [⟨(some 19), none, .mv (.t 0)⟩,
         ⟨(some 20), none, .mv (.t 5)⟩,
         ⟨(some 21), none, .mv (.t 1)⟩,
         ⟨(some 22), none, .iad 10 (.t 19) (.t 20)⟩,
         ⟨(some 23), none, .fad 1 (.t 22)⟩,
         ⟨none, none, .st 1 false (.t 23) (.t 21)⟩]) (
      .seq (
       .reg none [⟨(some 24), none, .mv (.t 1)⟩,
         ⟨(some 25), none, .bin .add (.t 24) (.c (.int .i64 (1)))⟩,
         ⟨(some 1), none, .asn (.t 25)⟩]) (
      .seq (
       .reg none [⟨(some 26), none, .mv (.t 0)⟩,
         ⟨(some 27), none, .mv (.t 5)⟩,
         ⟨(some 28), none, .iad 10 (.t 26) (.t 27)⟩,
         ⟨(some 29), none, .fad 2 (.t 28)⟩,
         ⟨(some 30), none, .ld 1 false (.t 29)⟩,
         ⟨(some 31), none, .mv (.t 1)⟩,
         ⟨(some 32), none, .callr 24 (.t 30) [(.t 30), (.t 31)]⟩,
         ⟨(some 1), none, .asn (.t 32)⟩]) (
      .seq (
       .reg none [⟨(some 33), none, .mv (.t 0)⟩,
         ⟨(some 34), none, .mv (.t 5)⟩,
         ⟨(some 35), none, .mv (.t 1)⟩,
         ⟨(some 36), none, .iad 10 (.t 33) (.t 34)⟩,
         ⟨(some 37), none, .fad 3 (.t 36)⟩,
         ⟨(some 38), none, .fad 0 (.t 37)⟩,
         ⟨none, none, .st 1 false (.t 38) (.t 35)⟩]) (
      .seq (
       .reg none [⟨(some 39), none, .mv (.t 1)⟩,
         ⟨(some 40), none, .bin .add (.t 39) (.c (.int .i64 (1)))⟩,
         ⟨(some 1), none, .asn (.t 40)⟩]) (
      .seq (
       .reg none [⟨(some 41), none, .mv (.t 0)⟩,
         ⟨(some 42), none, .mv (.t 5)⟩,
         ⟨(some 43), none, .mv (.t 1)⟩,
         ⟨(some 44), none, .iad 10 (.t 41) (.t 42)⟩,
         ⟨(some 45), none, .fad 3 (.t 44)⟩,
         ⟨(some 46), none, .fad 1 (.t 45)⟩,
         ⟨none, none, .st 1 false (.t 46) (.t 43)⟩]) (
      .seq (
       .reg none [⟨(some 47), none, .mv (.t 1)⟩,
         ⟨(some 48), none, .bin .add (.t 47) (.c (.int .i64 (1)))⟩,
         ⟨(some 1), none, .asn (.t 48)⟩]) (
      .seq (
       .reg none [⟨(some 49), none, .mv (.t 0)⟩,
         ⟨(some 50), none, .mv (.t 5)⟩,
         ⟨(some 51), none, .mv (.t 1)⟩,
         ⟨(some 52), none, .iad 10 (.t 49) (.t 50)⟩,
         ⟨(some 53), none, .fad 3 (.t 52)⟩,
         ⟨(some 54), none, .fad 2 (.t 53)⟩,
         ⟨none, none, .st 1 false (.t 54) (.t 51)⟩]) (
      .seq (
       .reg none [⟨(some 55), none, .mv (.t 1)⟩,
         ⟨(some 56), none, .bin .add (.t 55) (.c (.int .i64 (1)))⟩,
         ⟨(some 1), none, .asn (.t 56)⟩]) (
      .seq (
       .reg none [⟨(some 57), none, .mv (.t 0)⟩,
         ⟨(some 58), none, .mv (.t 5)⟩,
         ⟨(some 59), none, .mv (.t 1)⟩,
         ⟨(some 60), none, .iad 10 (.t 57) (.t 58)⟩,
         ⟨(some 61), none, .fad 3 (.t 60)⟩,
         ⟨(some 62), none, .fad 3 (.t 61)⟩,
         ⟨none, none, .st 1 false (.t 62) (.t 59)⟩]) (
      .seq (
       .reg none [⟨(some 63), none, .mv (.t 1)⟩,
         ⟨(some 64), none, .bin .add (.t 63) (.c (.int .i64 (1)))⟩,
         ⟨(some 1), none, .asn (.t 64)⟩]) (
      .seq (
       .reg none [⟨(some 65), none, .mv (.t 0)⟩,
         ⟨(some 66), none, .mv (.t 5)⟩,
         ⟨(some 67), none, .iad 10 (.t 65) (.t 66)⟩,
         ⟨(some 68), none, .fad 3 (.t 67)⟩,
         ⟨(some 69), none, .fad 4 (.t 68)⟩,
         ⟨(some 70), none, .ld 1 false (.t 69)⟩,
         ⟨(some 71), none, .mv (.t 1)⟩,
         ⟨(some 72), none, .callr 98 (.t 70) [(.t 70), (.t 71)]⟩,
         ⟨(some 1), none, .asn (.t 72)⟩]) (
      .seq (
       .reg none [⟨(some 73), none, .mv (.t 0)⟩,
         ⟨(some 74), none, .mv (.t 5)⟩,
         ⟨(some 75), none, .iad 10 (.t 73) (.t 74)⟩,
         ⟨(some 76), none, .fad 3 (.t 75)⟩,
         ⟨(some 77), none, .fad 5 (.t 76)⟩,
         ⟨(some 78), none, .fad 0 (.t 77)⟩,
         ⟨(some 79), none, .ld 1 false (.t 78)⟩,
         ⟨(some 80), none, .mv (.t 1)⟩,
         ⟨(some 81), none, .callr 99 (.t 79) [(.t 79), (.t 80)]⟩,
         ⟨(some 1), none, .asn (.t 81)⟩]) (
      .reg none [⟨(some 82), none, .mv (.t 0)⟩,
        ⟨(some 83), none, .mv (.t 5)⟩,
        ⟨(some 84), none, .iad 10 (.t 82) (.t 83)⟩,
        ⟨(some 85), none, .fad 3 (.t 84)⟩,
        ⟨(some 86), none, .fad 6 (.t 85)⟩,
        ⟨(some 87), none, .ld 1 false (.t 86)⟩,
        ⟨(some 88), none, .mv (.t 1)⟩,
        ⟨(some 89), none, .callr 100 (.t 87) [(.t 87), (.t 88)]⟩,
        ⟨(some 1), none, .asn (.t 89)⟩]))))))))))))))))) (
    .reg none [⟨(some 10), none, .mv (.t 5)⟩,
      ⟨(some 11), none, .bin .add (.t 10) (.c (.int .i64 (1)))⟩,
      ⟨(some 5), none, .asn (.t 11)⟩])))))) (
 .seq (
  .reg none [⟨(some 90), none, .mv (.t 1)⟩,
    ⟨(some 4), none, .asn (.t 90)⟩]) (
 .ret)))
def r_laws_markJobS : Nat × List RV := (91, [.t 4])

theorem c_laws_markJobS : cmpS PT PF PB (Try.prog.funcs[50]?) = some (r_laws_markJobS.1, r_laws_markJobS.2, stripK k_laws_markJobS) := by kernel_rfl

theorem h_markJobS (t : Nat) (xs : List TJob) (k : Int) (hk : 0 ≤ k) (hk2 : k + mJob.nL xs < 2 ^ 50) (hk3 : wL wJob xs < 2 ^ 50) :
    CallsB Try.prog 50 [.one (.vw t 10 1000 [] 0 xs.length), aI k] ⟨t, 10, xs.map rJob⟩ ⟨t, 10, (mJob.mkL xs k).map rJob⟩ (aI (k + mJob.nL xs)) := by
  refine PrunB c_laws_markJobS (by simp [r_laws_markJobS]) (by simp) ?_
  unfold k_laws_markJobS r_laws_markJobS
  have hlen := wL_len wJob xs
  simp
  refine awp_loop (fun n σ => ∃ i : Nat, i ≤ xs.length ∧ n = xs.length - i ∧ σ = ⟨[(0, .one (.vw t 10 1000 [] 0 xs.length)), (1, aI (mJob.pos xs k i)), (5, aI i)], [(1000, ⟨t, 10, (mJob.upto xs k i).map rJob⟩)]⟩) (xs.length) ⟨0, by simp [Mk.upto_zero, Mk.pos_zero]⟩ ?_
  rintro n σ ⟨i, hi, rfl, rfl⟩
  have hp1 : mJob.pos xs k i ≤ k + mJob.nL xs := Mk.pos_le hi
  have hp2 : k ≤ mJob.pos xs k i := Mk.pos_ge
  by_cases h : i < xs.length
  · have hw := wL_get wJob xs i h
    have hpst : mJob.pos xs k (i + 1) = mJob.pos xs k i + mJob.n xs[i] := Mk.pos_step h
    have hle : mJob.pos xs k (i + 1) ≤ k + mJob.nL xs := Mk.pos_le h
    have hst := Mk.upto_set (M := mJob) (k := k) h
    have hga := Mk.upto_at (M := mJob) (k := k) h
    have hll := Mk.upto_len (M := mJob) (xs := xs) (k := k) (i := i)
    generalize mJob.upto xs k i = us at *
    generalize hκ : mJob.pos xs k i = p0 at *
    rcases ha : xs[i] with ⟨bticket, bgram, binput, ⟨bruncode, brunpos, brunlook, bruncost, brunslots, ⟨bruntreenodes⟩, brunerrs⟩⟩
    simp only [ha, mJob_n, mJob_wr] at hpst hga hst
    simp only [ha, wJob, wRun, wTree] at hw
    obtain ⟨p1, hq1⟩ : ∃ p : Int, p = p0 + 1 := ⟨_, rfl⟩
    have ww0 : IntKind.i64.wrap (p0 + 1) = p1 := by rw [wrapI (by omega) (by omega), hq1]
    have nn0 : ¬ p1 < 0 := by omega
    obtain ⟨p2, hq2⟩ : ∃ p : Int, p = p1 + 1 := ⟨_, rfl⟩
    have ww1 : IntKind.i64.wrap (p1 + 1) = p2 := by rw [wrapI (by omega) (by omega), hq2]
    have nn1 : ¬ p2 < 0 := by omega
    obtain ⟨p3, hq3⟩ : ∃ p : Int, p = p2 + (mI.nL binput : Int) := ⟨_, rfl⟩
    have nn2 : ¬ p3 < 0 := by omega
    obtain ⟨p4, hq4⟩ : ∃ p : Int, p = p3 + 1 := ⟨_, rfl⟩
    have ww3 : IntKind.i64.wrap (p3 + 1) = p4 := by rw [wrapI (by omega) (by omega), hq4]
    have nn3 : ¬ p4 < 0 := by omega
    obtain ⟨p5, hq5⟩ : ∃ p : Int, p = p4 + 1 := ⟨_, rfl⟩
    have ww4 : IntKind.i64.wrap (p4 + 1) = p5 := by rw [wrapI (by omega) (by omega), hq5]
    have nn4 : ¬ p5 < 0 := by omega
    obtain ⟨p6, hq6⟩ : ∃ p : Int, p = p5 + 1 := ⟨_, rfl⟩
    have ww5 : IntKind.i64.wrap (p5 + 1) = p6 := by rw [wrapI (by omega) (by omega), hq6]
    have nn5 : ¬ p6 < 0 := by omega
    obtain ⟨p7, hq7⟩ : ∃ p : Int, p = p6 + 1 := ⟨_, rfl⟩
    have ww6 : IntKind.i64.wrap (p6 + 1) = p7 := by rw [wrapI (by omega) (by omega), hq7]
    have nn6 : ¬ p7 < 0 := by omega
    obtain ⟨p8, hq8⟩ : ∃ p : Int, p = p7 + (mSlot.nL brunslots : Int) := ⟨_, rfl⟩
    have nn7 : ¬ p8 < 0 := by omega
    obtain ⟨p9, hq9⟩ : ∃ p : Int, p = p8 + (mNode.nL bruntreenodes : Int) := ⟨_, rfl⟩
    have nn8 : ¬ p9 < 0 := by omega
    obtain ⟨p10, hq10⟩ : ∃ p : Int, p = p9 + (mErr.nL brunerrs : Int) := ⟨_, rfl⟩
    have nn9 : ¬ p10 < 0 := by omega
    simp only [← hq1, ← hq2, ← hq3, ← hq4, ← hq5, ← hq6, ← hq7, ← hq8, ← hq9, ← hq10] at hga hst
    simp [h, hga, hll, rJob, ww0, nn0, ww1, nn1, nn2, ww3, nn3, ww4, nn4, ww5, nn5, ww6, nn6, nn7, nn8, nn9]
    have hc2 := h_markIntS 3 binput p2 (by omega) (by omega)
    rw [← hq3] at hc2
    refine callRG_F hc2 rfl rfl (by simp) (by simp) ?_
    simp [h, hga, hll, rJob, ww0, nn0, ww1, nn1, nn2, ww3, nn3, ww4, nn4, ww5, nn5, ww6, nn6, nn7, nn8, nn9]
    have hc7 := h_markSlotS 183 brunslots p7 (by omega) (by omega) (by omega)
    rw [← hq8] at hc7
    refine callRG_F hc7 rfl rfl (by simp) (by simp) ?_
    simp [h, hga, hll, rJob, ww0, nn0, ww1, nn1, nn2, ww3, nn3, ww4, nn4, ww5, nn5, ww6, nn6, nn7, nn8, nn9]
    have hc8 := h_markNodeS 185 bruntreenodes p8 (by omega) (by omega) (by omega)
    rw [← hq9] at hc8
    refine callRG_F hc8 rfl rfl (by simp) (by simp) ?_
    simp [h, hga, hll, rJob, ww0, nn0, ww1, nn1, nn2, ww3, nn3, ww4, nn4, ww5, nn5, ww6, nn6, nn7, nn8, nn9]
    have hc9 := h_markErrS 187 brunerrs p9 (by omega) (by omega) (by omega)
    rw [← hq10] at hc9
    refine callRG_F hc9 rfl rfl (by simp) (by simp) ?_
    simp [h, hga, hll, rJob, ww0, nn0, ww1, nn1, nn2, ww3, nn3, ww4, nn4, ww5, nn5, ww6, nn6, nn7, nn8, nn9]
    refine ⟨xs.length - (i + 1), by omega, i + 1, by omega, rfl, ?_⟩
    rw [wrapI (by omega) (by omega)]
    rw [← hst]
    simp [rJob]
    omega
  · have : i = xs.length := by omega
    subst this
    simp [Mk.upto_all, Mk.pos_all]
end Go.Am
-- mtext
namespace Go.Am
open Go.Proofs
set_option maxHeartbeats 4000000
set_option maxRecDepth 100000
theorem digsF_stable : ∀ (f g n : Nat), n ≤ f → n ≤ g → digsF f n = digsF g n
  | 0, 0, _, _, _ => rfl
  | 0, g + 1, n, h, _ => by
    have : n = 0 := by omega
    subst this; simp [digsF]
  | f + 1, 0, n, _, h => by
    have : n = 0 := by omega
    subst this; simp [digsF]
  | f + 1, g + 1, n, hf, hg => by
    simp only [digsF]
    split
    · rfl
    · rw [digsF_stable f g (n / 10) (by omega) (by omega)]
theorem digs_zero : digs 0 = [] := rfl
theorem digs_step {n : Nat} (h : 0 < n) : digs n = digs (n / 10) ++ [UInt8.ofNat (48 + n % 10)] := by
  obtain ⟨m, rfl⟩ : ∃ m, n = m + 1 := ⟨n - 1, by omega⟩
  unfold digs
  rw [digsF, if_neg (by omega), digsF_stable m ((m + 1) / 10) ((m + 1) / 10) (by omega) (Nat.le_refl _)]
-- 72 loop.example/g00485/laws.markText
def k_laws_markText : K :=
 .seq (
  .reg none [⟨(some 2), none, .asn (.c (.str ⟨#[]⟩))⟩]) (
 .seq (
  .seq (
   .reg none [⟨(some 4), none, .mv (.t 0)⟩,
     ⟨(some 5), none, .bin .leq (.t 4) (.c (.int .i64 (0)))⟩]) (
  .cond (.t 5) (
   .seq (
    .reg none [⟨(some 2), none, .asn (.c (.str ⟨#[109, 48]⟩))⟩]) (
   .ret)) (
   .skip))) (
 .seq (
  .reg none [⟨(some 3), none, .asn (.c (.str ⟨#[]⟩))⟩]) (
 .seq (
  .block 0 (
   .loop (some ([0, 3], [0, 3, 1000])) (
    .seq (
     .seq (
      .reg none [⟨(some 6), none, .mv (.t 0)⟩,
        ⟨(some 7), none, .bin .gtr (.t 6) (.c (.int .i64 (0)))⟩]) (
     .cond (.t 7) (
      .skip) (
      .exit 0))) (
    .block 1 (
     .seq (
      .reg none [⟨(some 8), none, .mv (.t 0)⟩,
        ⟨(some 9), none, .bin .rem (.t 8) (.c (.int .i64 (10)))⟩,
        ⟨(some 10), none, .bin .add (.c (.int .i64 (48))) (.t 9)⟩,
        ⟨(some 11), none, .conv .u8 (.t 10)⟩,
        ⟨(some 12), none, .bls 5 1 false [(.t 11)]⟩,
        ⟨(some 13), none, .b2s (.t 12)⟩,
        ⟨(some 14), none, .mv (.t 3)⟩,
        ⟨(some 15), none, .bin .add (.t 13) (.t 14)⟩,
        ⟨(some 3), none, .asn (.t 15)⟩]) (
     .reg none [⟨(some 16), none, .mv (.t 0)⟩,
       ⟨(some 17), none, .bin .quo (.t 16) (.c (.int .i64 (10)))⟩,
       ⟨(some 0), none, .asn (.t 17)⟩])))))) (
 .seq (
  .reg none [⟨(some 18), none, .mv (.t 3)⟩,
    ⟨(some 19), none, .bin .add (.c (.str ⟨#[109]⟩)) (.t 18)⟩,
    ⟨(some 2), none, .asn (.t 19)⟩]) (
 .ret)))))
def r_laws_markText : Nat × List RV := (20, [.t 2])

theorem c_laws_markText : cmpS PT PF PA (Try.prog.funcs[72]?) = some (r_laws_markText.1, r_laws_markText.2, stripK k_laws_markText) := by kernel_rfl

set_option maxRecDepth 100000 in
theorem h_markText (k : Int) (hk : 0 ≤ k) (hk2 : k < 2 ^ 50) : CallsF Try.prog 72 [aI k] (aS (mtx k)) := by
  refine Prun c_laws_markText (by simp [r_laws_markText]) (by simp) ?_
  unfold k_laws_markText r_laws_markText
  obtain ⟨n, rfl⟩ : ∃ n : Nat, k = n := ⟨k.toNat, by omega⟩
  by_cases h0 : n = 0
  · subst h0
    simp [mtx, aS]
  · have hp : ¬ (n : Int) ≤ 0 := by omega
    simp [h0]
    refine awp_loop (fun m σ => ∃ (d : Nat) (out : List UInt8), m = d ∧ digs n = digs d ++ out ∧ d * 10 ^ out.length ≤ n ∧ out.length ≤ 16 ∧ σ = ⟨[(0, aI d), (3, aS ⟨out.toArray⟩)], []⟩) n ⟨n, [], by simp [aS]⟩ ?_
    rintro m σ ⟨d, out, rfl, hd, hle, hl, rfl⟩
    by_cases h : m = 0
    · subst h
      have hs : (⟨#[109]⟩ : ByteArray).size + (⟨out.toArray⟩ : ByteArray).size ≤ 4294967296 := by show 1 + out.toArray.size ≤ _; simp; omega
      have hmt : mtx n = (⟨#[109]⟩ : ByteArray) ++ ⟨out.toArray⟩ := by
        have h1 : digs n = out := by simpa [digs_zero] using hd
        simp only [mtx]
        rw [if_neg hp, Int.toNat_natCast, h1]
        apply ByteArray.ext
        simp
      simp [aS, hs, hmt]
    · have hm : 0 < m := by omega
      have h16 : out.length ≤ 15 := by
        have h1 : 10 ^ out.length ≤ n := Nat.le_trans (Nat.le_mul_of_pos_left _ hm) hle
        by_cases hh : out.length ≤ 15
        · exact hh
        · have h2 : 10000000000000000 ≤ 10 ^ out.length := by
            have := Nat.pow_le_pow_right (n := 10) (by omega) (show 16 ≤ out.length by omega)
            exact Nat.le_trans (by decide) this
          have hk3 : n < 1125899906842624 := by omega
          omega
      have hst := digs_step hm
      have hmod : (m : Int).tmod 10 = ((m % 10 : Nat) : Int) := rfl
      have hdiv : (m : Int).tdiv 10 = ((m / 10 : Nat) : Int) := rfl
      have hmn : m ≤ n := Nat.le_trans (Nat.le_mul_of_pos_right _ (Nat.pow_pos (by omega))) hle
      have wq : IntKind.i64.wrap ((m : Int).tdiv 10) = ((m / 10 : Nat) : Int) := by rw [hdiv, wrapI (by omega) (by omega)]
      have wr : IntKind.i64.wrap (48 + (m : Int).tmod 10) = ((48 + m % 10 : Nat) : Int) := by rw [hmod, wrapI (by omega) (by omega)]; omega
      have wb : IntKind.u8.wrap (((48 + m % 10 : Nat) : Int)) = ((48 + m % 10 : Nat) : Int) := by
        have h1 : 48 + m % 10 < 256 := by omega
        simp [IntKind.wrap, IntKind.bits, IntKind.signed]
        omega
      have hb : UInt8.ofNat (IntKind.u8.wrap (IntKind.i64.wrap (48 + (m : Int).tmod 10))).toNat = UInt8.ofNat (48 + m % 10) := by rw [wr, wb, Int.toNat_natCast]
      have hs : (⟨#[UInt8.ofNat (48 + m % 10)]⟩ : ByteArray).size + (⟨out.toArray⟩ : ByteArray).size ≤ 4294967296 := by show 1 + out.toArray.size ≤ _; simp; omega
      have hap : (⟨#[UInt8.ofNat (48 + m % 10)]⟩ : ByteArray) ++ ⟨out.toArray⟩ = ⟨(UInt8.ofNat (48 + m % 10) :: out).toArray⟩ := by
        apply ByteArray.ext
        simp
      have hp10 : m / 10 * 10 ^ (out.length + 1) ≤ n := by
        rw [Nat.pow_succ, Nat.mul_comm (10 ^ out.length) 10, ← Nat.mul_assoc]
        exact Nat.le_trans (Nat.mul_le_mul_right _ (by omega)) hle
      generalize UInt8.ofNat (48 + m % 10) = by8 at *
      simp [aS, hm, hb, hs, hap, wq]
      refine ⟨m / 10, by omega, by8 :: out, ?_, hp10, by simp; omega, wrapI (by omega) (by omega), rfl⟩
      rw [hd, hst, List.append_assoc]
      rfl
end Go.Am
-- Outcome_mk
namespace Go.Am
open Go.Proofs
set_option maxHeartbeats 4000000
set_option maxRecDepth 100000
-- 32 loop.example/g00485/laws.markOutcomeS
def k_laws_markOutcomeS : K :=
 .seq (
  .reg none [⟨(some 4), none, .asn (.c (.int .i64 (0)))⟩]) (
 .seq (
  .seq (
   .reg none [⟨(some 5), none, .asn (.c (.int .i64 (0)))⟩]) (
  .block 0 (
   .loop (some ([0, 1, 5], [0, 1, 5, 1000])) (
    .seq (
     .seq (
      .reg none [⟨(some 6), none, .mv (.t 5)⟩,
        ⟨(some 7), none, .mv (.t 0)⟩,
        ⟨(some 8), none, .len (.t 7)⟩,
        ⟨(some 9), none, .bin .lss (.t 6) (.t 8)⟩]) (
     .cond (.t 9) (
      .skip) (
      .exit 0))) (
    .seq (
     .block 1 (
      .seq (
       .reg none [⟨(some 12), none, .mv (.t 0)⟩,
         ⟨(some 13), none, .mv (.t 5)⟩,
         ⟨(some 14), none, .mv (.t 1)⟩,
         ⟨(some 15), none, .iad 3 (.t 12) (.t 13)⟩,
         ⟨(some 16), none, .fad 0 (.t 15)⟩,
         ⟨none, none, .st 1 false (.t 16) (.t 14)⟩]) (
      .seq (
       .reg none [⟨(some 17), none, .mv (.t 1)⟩,
         ⟨(some 18), none, .bin .add (.t 17) (.c (.int .i64 (1)))⟩,
         ⟨(some 1), none, .asn (.t 18)⟩]) (
      .seq (
       .reg none [⟨(some 19), none, .mv (.t 0)⟩,
         ⟨(some 20), none, .mv (.t 5)⟩,
         ⟨(some 21), none, .mv (.t 1)⟩,
         ⟨(some 22), none, .iad 3 (.t 19) (.t 20)⟩,
         ⟨(some 23), none, .fad 1 (.t 22)⟩,
         ⟨none, none, .st 1 false (.t 23) (.t 21)⟩]) (
      .seq (
       .reg none [⟨(some 24), none, .mv (.t 1)⟩,
         ⟨(some 25), none, .bin .add (.t 24) (.c (.int .i64 (1)))⟩,
         ⟨(some 1), none, .asn (.t 25)⟩]) (
      .seq (
       .reg none [⟨(some 26), none, .mv (.t 0)⟩,
         ⟨(some 27), none, .mv (.t 5)⟩,
         ⟨(some 28), none, .mv (.t 1)⟩,
         ⟨(some 29), none, .call 72 [(.t 28)]⟩,
         ⟨(some 30), none, .iad 3 (.t 26) (.t 27)⟩,
         ⟨(some 31), none, .fad 2 (.t 30)⟩,
         ⟨none, none, .st 1 false (.t 31) (.t 29)⟩]) (
      .reg none [⟨(some 32), none, .mv (.t 1)⟩,
        ⟨(some 33), none, .bin .add (.t 32) (.c (.int .i64 (1)))⟩,
        ⟨(some 1), none, .asn (.t 33)⟩]))))))) (
    .reg none [⟨(some 10), none, .mv (.t 5)⟩,
      ⟨(some 11), none, .bin .add (.t 10) (.c (.int .i64 (1)))⟩,
      ⟨(some 5), none, .asn (.t 11)⟩])))))) (
 .seq (
  .reg none [⟨(some 34), none, .mv (.t 1)⟩,
    ⟨(some 4), none, .asn (.t 34)⟩]) (
 .ret)))
def r_laws_markOutcomeS : Nat × List RV := (35, [.t 4])

theorem c_laws_markOutcomeS : cmpS PT PF PB (Try.prog.funcs[32]?) = some (r_laws_markOutcomeS.1, r_laws_markOutcomeS.2, stripK k_laws_markOutcomeS) := by kernel_rfl

theorem h_markOutcomeS (t : Nat) (xs : List TOutcome) (k : Int) (hk : 0 ≤ k) (hk2 : k + mOutcome.nL xs < 2 ^ 50) (hk3 : wL wOutcome xs < 2 ^ 50) :
    CallsB Try.prog 32 [.one (.vw t 3 1000 [] 0 xs.length), aI k] ⟨t, 3, xs.map rOutcome⟩ ⟨t, 3, (mOutcome.mkL xs k).map rOutcome⟩ (aI (k + mOutcome.nL xs)) := by
  refine PrunB c_laws_markOutcomeS (by simp [r_laws_markOutcomeS]) (by simp) ?_
  unfold k_laws_markOutcomeS r_laws_markOutcomeS
  have hlen := wL_len wOutcome xs
  simp
  refine awp_loop (fun n σ => ∃ i : Nat, i ≤ xs.length ∧ n = xs.length - i ∧ σ = ⟨[(0, .one (.vw t 3 1000 [] 0 xs.length)), (1, aI (mOutcome.pos xs k i)), (5, aI i)], [(1000, ⟨t, 3, (mOutcome.upto xs k i).map rOutcome⟩)]⟩) (xs.length) ⟨0, by simp [Mk.upto_zero, Mk.pos_zero]⟩ ?_
  rintro n σ ⟨i, hi, rfl, rfl⟩
  have hp1 : mOutcome.pos xs k i ≤ k + mOutcome.nL xs := Mk.pos_le hi
  have hp2 : k ≤ mOutcome.pos xs k i := Mk.pos_ge
  by_cases h : i < xs.length
  · have hw := wL_get wOutcome xs i h
    have hpst : mOutcome.pos xs k (i + 1) = mOutcome.pos xs k i + mOutcome.n xs[i] := Mk.pos_step h
    have hle : mOutcome.pos xs k (i + 1) ≤ k + mOutcome.nL xs := Mk.pos_le h
    have hst := Mk.upto_set (M := mOutcome) (k := k) h
    have hga := Mk.upto_at (M := mOutcome) (k := k) h
    have hll := Mk.upto_len (M := mOutcome) (xs := xs) (k := k) (i := i)
    generalize mOutcome.upto xs k i = us at *
    generalize hκ : mOutcome.pos xs k i = p0 at *
    rcases ha : xs[i] with ⟨bticket, bcode, btext⟩
    simp only [ha, mOutcome_n, mOutcome_wr] at hpst hga hst
    simp only [ha, wOutcome] at hw
    obtain ⟨p1, hq1⟩ : ∃ p : Int, p = p0 + 1 := ⟨_, rfl⟩
    have ww0 : IntKind.i64.wrap (p0 + 1) = p1 := by rw [wrapI (by omega) (by omega), hq1]
    have nn0 : ¬ p1 < 0 := by omega
    obtain ⟨p2, hq2⟩ : ∃ p : Int, p = p1 + 1 := ⟨_, rfl⟩
    have ww1 : IntKind.i64.wrap (p1 + 1) = p2 := by rw [wrapI (by omega) (by omega), hq2]
    have nn1 : ¬ p2 < 0 := by omega
    obtain ⟨p3, hq3⟩ : ∃ p : Int, p = p2 + 1 := ⟨_, rfl⟩
    have ww2 : IntKind.i64.wrap (p2 + 1) = p3 := by rw [wrapI (by omega) (by omega), hq3]
    have nn2 : ¬ p3 < 0 := by omega
    simp only [← hq1, ← hq2, ← hq3] at hga hst
    simp [h, hga, hll, rOutcome, ww0, nn0, ww1, nn1, ww2, nn2]
    first | refine callG_F (h_markText p2 (by omega) (by omega)) (by simp) ?_ | refine ⟨_, by simp, h_markText p2 (by omega) (by omega), ?_⟩
    simp [h, hga, hll, rOutcome, ww0, nn0, ww1, nn1, ww2, nn2]
    refine ⟨xs.length - (i + 1), by omega, i + 1, by omega, rfl, ?_⟩
    rw [wrapI (by omega) (by omega)]
    rw [← hst]
    simp [rOutcome]
    omega
  · have : i = xs.length := by omega
    subst this
    simp [Mk.upto_all, Mk.pos_all]
end Go.Am
-- Tenant_u
namespace Go.Am
open Go.Proofs
set_option maxHeartbeats 4000000
set_option maxRecDepth 100000
def vTenant (a : TTenant) : List C := [cI a.quantum, cI a.cls, cI a.budget, cI a.used, cI a.wait, cI a.turns, cI a.next, cI a.due, .vw 133 10 1000 [] 0 a.queue.length, .vw 102 3 1001 [] 0 a.out.length]
def uTenant : Mk TTenant := ⟨fun a k => ⟨a.quantum, a.cls, a.budget, a.used, a.wait, a.turns, a.next, a.due, mJob.mkL a.queue (k), mOutcome.mkL a.out (k + mJob.nL a.queue)⟩, fun a => mJob.nL a.queue + mOutcome.nL a.out⟩
@[simp] theorem uTenant_wr (a : TTenant) (k : Int) : uTenant.wr a k = ⟨a.quantum, a.cls, a.budget, a.used, a.wait, a.turns, a.next, a.due, mJob.mkL a.queue (k), mOutcome.mkL a.out (k + mJob.nL a.queue)⟩ := rfl
@[simp] theorem uTenant_n (a : TTenant) : uTenant.n a = mJob.nL a.queue + mOutcome.nL a.out := rfl
end Go.Am
-- Tenant_mk1
namespace Go.Am
open Go.Proofs
set_option maxHeartbeats 4000000
set_option maxRecDepth 100000
-- 13 loop.example/g00485/laws.markTenant
def k_laws_markTenant : K :=
 .seq (
  .reg none [⟨(some 2), none, .boxs 10 (.t 0)⟩,
    ⟨(some 4), none, .asn (.c (.int .i64 (0)))⟩]) (
 .seq (
  .reg none [⟨(some 5), none, .fad 8 (.t 2)⟩,
    ⟨(some 6), none, .ld 1 false (.t 5)⟩,
    ⟨(some 7), none, .mv (.t 1)⟩,
    ⟨(some 8), none, .callr 50 (.t 6) [(.t 6), (.t 7)]⟩,
    ⟨(some 1), none, .asn (.t 8)⟩]) (
 .seq (
  .reg none [⟨(some 9), none, .fad 9 (.t 2)⟩,
    ⟨(some 10), none, .ld 1 false (.t 9)⟩,
    ⟨(some 11), none, .mv (.t 1)⟩,
    ⟨(some 12), none, .callr 32 (.t 10) [(.t 10), (.t 11)]⟩,
    ⟨(some 1), none, .asn (.t 12)⟩]) (
 .seq (
  .reg none [⟨(some 13), none, .mv (.t 1)⟩,
    ⟨(some 4), none, .asn (.t 13)⟩]) (
 .ret))))
def r_laws_markTenant : Nat × List RV := (14, [.t 4])

theorem c_laws_markTenant : cmpS PT PF PB (Try.prog.funcs[13]?) = some (r_laws_markTenant.1, r_laws_markTenant.2, stripK k_laws_markTenant) := by kernel_rfl

theorem h_markTenant (a : TTenant) (k : Int) (hk : 0 ≤ k) (hk2 : k + uTenant.n a < 2 ^ 50) (hk3 : wTenant a < 2 ^ 50) :
    CallsA Try.prog 13 [.agg (vTenant a), aI k] [(1000, ⟨133, 10, a.queue.map rJob⟩), (1001, ⟨102, 3, a.out.map rOutcome⟩)] fun r H => H = [(1000, ⟨133, 10, (uTenant.wr a k).queue.map rJob⟩), (1001, ⟨102, 3, (uTenant.wr a k).out.map rOutcome⟩)] ∧ r = aI (k + uTenant.n a) := by
  refine PrunB c_laws_markTenant (by simp [r_laws_markTenant]) (by simp) ?_
  unfold k_laws_markTenant r_laws_markTenant
  simp only [uTenant_n, wTenant] at hk2 hk3
  obtain ⟨p0, hq0⟩ : ∃ p : Int, p = k + (mJob.nL a.queue : Int) := ⟨_, rfl⟩
  have nn0 : ¬ p0 < 0 := by omega
  obtain ⟨p1, hq1⟩ : ∃ p : Int, p = p0 + (mOutcome.nL a.out : Int) := ⟨_, rfl⟩
  have nn1 : ¬ p1 < 0 := by omega
  simp only [uTenant_wr, ← hq0, ← hq1]
  simp [vTenant, nn0, nn1]
  have hc0 := h_markJobS 133 a.queue k (by omega) (by omega) (by omega)
  simp only [← hq0] at hc0
  refine callRG_F hc0 rfl rfl (by simp) (by simp) ?_
  simp [nn0, nn1]
  have hc1 := h_markOutcomeS 102 a.out p0 (by omega) (by omega) (by omega)
  simp only [← hq1] at hc1
  refine callRG_F hc1 rfl rfl (by simp) (by simp) ?_
  simp [nn0, nn1]
  try omega
end Go.Am
-- inth
namespace Go.Am
open Go.Proofs
set_option maxHeartbeats 4000000
set_option maxRecDepth 100000
-- 63 loop.example/g00485/laws.heldIntS
def k_laws_heldIntS : K :=
 .seq (
  .reg none [⟨(some 4), none, .asn (.c (.int .i64 (0)))⟩]) (
 .seq (
  .seq (
   .reg none [⟨(some 5), none, .asn (.c (.int .i64 (0)))⟩]) (
  .block 0 (
   .loop (some ([0, 1, 5], [0, 1, 5, 1000])) (
    .seq (
     .seq (
      .reg none [⟨(some 6), none, .mv (.t 5)⟩,
        ⟨(some 7), none, .mv (.t 0)⟩,
        ⟨(some 8), none, .len (.t 7)⟩,
        ⟨(some 9), none, .bin .lss (.t 6) (.t 8)⟩]) (
     .cond (.t 9) (
      .skip) (
      .exit 0))) (
    .seq (
     .block 1 (
      .seq (
       .seq (
        .reg none [⟨(some 12), none, .mv (.t 0)⟩,
          ⟨(some 13), none, .mv (.t 5)⟩,
          ⟨(some 14), none, .iad 1 (.t 12) (.t 13)⟩,
          ⟨(some 15), none, .ld 1 false (.t 14)⟩,
          ⟨(some 16), none, .mv (.t 1)⟩,
          ⟨(some 17), none, .bin .neq (.t 15) (.t 16)⟩]) (
       .cond (.t 17) (
        .seq (
         .reg none [⟨(some 4), none, .asn (.c (.int .i64 (-1)))⟩]) (
        .ret)) (
        .skip))) (
      .reg none [⟨(some 18), none, .mv (.t 1)⟩,
        ⟨(some 19), none, .bin .add (.t 18) (.c (.int .i64 (1)))⟩,
        ⟨(some 1), none, .asn (.t 19)⟩]))) (
    .reg none [⟨(some 10), none, .mv (.t 5)⟩,
      ⟨(some 11), none, .bin .add (.t 10) (.c (.int .i64 (1)))⟩,
      ⟨(some 5), none, .asn (.t 11)⟩])))))) (
 .seq (
  .reg none [⟨(some 20), none, .mv (.t 1)⟩,
    ⟨(some 4), none, .asn (.t 20)⟩]) (
 .ret)))
def r_laws_heldIntS : Nat × List RV := (21, [.t 4])

theorem c_laws_heldIntS : cmpS PT PF PA (Try.prog.funcs[63]?) = some (r_laws_heldIntS.1, r_laws_heldIntS.2, stripK k_laws_heldIntS) := by kernel_rfl

theorem h_heldIntS (xs : List Int) (k : Int) (hk : 0 ≤ k) (hk2 : k + mI.nL xs < 2 ^ 50) : CallsF Try.prog 63 [.one (.ar false 0 1 ((mI.mkL xs k).map rI)), aI k] (aI (k + mI.nL xs)) := by
  refine Prun c_laws_heldIntS (by simp [r_laws_heldIntS]) (by simp) ?_
  unfold k_laws_heldIntS r_laws_heldIntS
  simp
  refine awp_loop (fun n σ => ∃ i : Nat, i ≤ xs.length ∧ n = xs.length - i ∧ σ = ⟨[(0, .one (.ar false 0 1 ((mI.mkL xs k).map rI))), (1, aI (mI.pos xs k i)), (5, aI i)], []⟩) (xs.length) ⟨0, by simp [Mk.pos_zero]⟩ ?_
  rintro n σ ⟨i, hi, rfl, rfl⟩
  have hn : (mI.nL xs : Int) = xs.length := by simp [mI_n]
  have hp1 : mI.pos xs k i ≤ k + mI.nL xs := Mk.pos_le hi
  have hp2 : k ≤ mI.pos xs k i := Mk.pos_ge
  by_cases h : i < xs.length
  · have hpst : mI.pos xs k (i + 1) = mI.pos xs k i + 1 := Mk.pos_step h
    have hle : mI.pos xs k (i + 1) ≤ k + mI.nL xs := Mk.pos_le h
    have w1 : IntKind.i64.wrap (mI.pos xs k i + 1) = mI.pos xs k (i + 1) := by rw [wrapI (by omega) (by omega), hpst]
    have w2 : IntKind.i64.wrap ((i : Int) + 1) = i + 1 := wrapI (by omega) (by omega)
    simp [h, Mk.mkL_at h, w1, w2]
    exact ⟨xs.length - (i + 1), by omega, i + 1, by omega, rfl, by simp⟩
  · have : i = xs.length := by omega
    subst this
    simp [Mk.pos_all]
end Go.Am
-- Err_hd
namespace Go.Am
open Go.Proofs
set_option maxHeartbeats 4000000
set_option maxRecDepth 100000
-- 103 loop.example/g00485/laws.heldErrS
def k_laws_heldErrS : K :=
 .seq (
  .reg none [⟨(some 4), none, .asn (.c (.int .i64 (0)))⟩]) (
 .seq (
  .seq (
   .reg none [⟨(some 5), none, .asn (.c (.int .i64 (0)))⟩]) (
  .block 0 (
   .loop (some ([0, 1, 5], [0, 1, 5, 1000])) (
    .seq (
     .seq (
      .reg none [⟨(some 6), none, .mv (.t 5)⟩,
        ⟨(some 7), none, .mv (.t 0)⟩,
        ⟨(some 8), none, .len (.t 7)⟩,
        ⟨(some 9), none, .bin .lss (.t 6) (.t 8)⟩]) (
     .cond (.t 9) (
      .skip) (
      .exit 0))) (
    .seq (
     .block 1 (
      .seq (
       .seq (
        .reg none [⟨(some 12), none, .mv (.t 0)⟩,
          ⟨(some 13), none, .mv (.t 5)⟩,
          ⟨(some 14), none, .iad 3 (.t 12) (.t 13)⟩,
          ⟨(some 15), none, .fad 0 (.t 14)⟩,
          ⟨(some 16), none, .ld 1 false (.t 15)⟩,
          ⟨(some 17), none, .mv (.t 1)⟩,
          ⟨(some 18), none, .bin .neq (.t 16) (.t 17)⟩]) (
       .cond (.t 18) (
        .seq (
         .reg none [⟨(some 4), none, .asn (.c (.int .i64 (-1)))⟩]) (
        .ret)) (
        .skip))) (
      .seq (
       .reg none [⟨(some 19), none, .mv (.t 1)⟩,
         ⟨(some 20), none, .bin .add (.t 19) (.c (.int .i64 (1)))⟩,
         ⟨(some 1), none, .asn (.t 20)⟩]) (
      .seq (
       .seq (
        .reg none [⟨(some 21), none, .mv (.t 0)⟩,
          ⟨(some 22), none, .mv (.t 5)⟩,
          ⟨(some 23), none, .iad 3 (.t 21) (.t 22)⟩,
          ⟨(some 24), none, .fad 1 (.t 23)⟩,
          ⟨(some 25), none, .ld 1 false (.t 24)⟩,
          ⟨(some 26), none, .mv (.t 1)⟩,
          ⟨(some 27), none, .bin .neq (.t 25) (.t 26)⟩]) (
       .cond (.t 27) (
        .seq (
         .reg none [⟨(some 4), none, .asn (.c (.int .i64 (-1)))⟩]) (
        .ret)) (
        .skip))) (
      .seq (
       .reg none [⟨(some 28), none, .mv (.t 1)⟩,
         ⟨(some 29), none, .bin .add (.t 28) (.c (.int .i64 (1)))⟩,
         ⟨(some 1), none, .asn (.t 29)⟩]) (
      .seq (
       .seq (
        .reg none [⟨(some 30), none, .mv (.t 0)⟩,
          ⟨(some 31), none, .mv (.t 5)⟩,
          ⟨(some 32), none, .iad 3 (.t 30) (.t 31)⟩,
          ⟨(some 33), none, .fad 2 (.t 32)⟩,
          ⟨(some 34), none, .ld 1 false (.t 33)⟩,
          ⟨(some 35), none, .mv (.t 1)⟩,
          ⟨(some 36), none, .bin .neq (.t 34) (.t 35)⟩]) (
       .cond (.t 36) (
        .seq (
         .reg none [⟨(some 4), none, .asn (.c (.int .i64 (-1)))⟩]) (
        .ret)) (
        .skip))) (
      .reg none [⟨(some 37), none, .mv (.t 1)⟩,
        ⟨(some 38), none, .bin .add (.t 37) (.c (.int .i64 (1)))⟩,
        ⟨(some 1), none, .asn (.t 38)⟩]))))))) (
    .reg none [⟨(some 10), none, .mv (.t 5)⟩,
      ⟨(some 11), none, .bin .add (.t 10) (.c (.int .i64 (1)))⟩,
      ⟨(some 5), none, .asn (.t 11)⟩])))))) (
 .seq (
  .reg none [⟨(some 39), none, .mv (.t 1)⟩,
    ⟨(some 4), none, .asn (.t 39)⟩]) (
 .ret)))
def r_laws_heldErrS : Nat × List RV := (40, [.t 4])

theorem c_laws_heldErrS : cmpS PT PF PA (Try.prog.funcs[103]?) = some (r_laws_heldErrS.1, r_laws_heldErrS.2, stripK k_laws_heldErrS) := by kernel_rfl

theorem h_heldErrS (xs : List TErr) (k : Int) (hk : 0 ≤ k) (hk2 : k + mErr.nL xs < 2 ^ 50) (hk3 : wL wErr xs < 2 ^ 50) : CallsF Try.prog 103 [.one (.ar false 0 3 ((mErr.mkL xs k).map sErr)), aI k] (aI (k + mErr.nL xs)) := by
  refine Prun c_laws_heldErrS (by simp [r_laws_heldErrS]) (by simp) ?_
  unfold k_laws_heldErrS r_laws_heldErrS
  have hlen := wL_len wErr xs
  simp
  refine awp_loop (fun n σ => ∃ i : Nat, i ≤ xs.length ∧ n = xs.length - i ∧ σ = ⟨[(0, .one (.ar false 0 3 ((mErr.mkL xs k).map sErr))), (1, aI (mErr.pos xs k i)), (5, aI i)], []⟩) (xs.length) ⟨0, by simp [Mk.pos_zero]⟩ ?_
  rintro n σ ⟨i, hi, rfl, rfl⟩
  have hp1 : mErr.pos xs k i ≤ k + mErr.nL xs := Mk.pos_le hi
  have hp2 : k ≤ mErr.pos xs k i := Mk.pos_ge
  by_cases h : i < xs.length
  · have hw := wL_get wErr xs i h
    have hpst : mErr.pos xs k (i + 1) = mErr.pos xs k i + mErr.n xs[i] := Mk.pos_step h
    have hle : mErr.pos xs k (i + 1) ≤ k + mErr.nL xs := Mk.pos_le h
    have hga := Mk.mkL_at (M := mErr) (k := k) h
    generalize hκ : mErr.pos xs k i = p0 at *
    rcases ha : xs[i] with ⟨bkind, bpos, bsym⟩
    simp only [ha, mErr_n, mErr_wr] at hpst hga
    simp only [ha, wErr] at hw
    obtain ⟨p1, hq1⟩ : ∃ p : Int, p = p0 + 1 := ⟨_, rfl⟩
    have ww0 : IntKind.i64.wrap (p0 + 1) = p1 := by rw [wrapI (by omega) (by omega), hq1]
    have nn0 : ¬ p1 < 0 := by omega
    obtain ⟨p2, hq2⟩ : ∃ p : Int, p = p1 + 1 := ⟨_, rfl⟩
    have ww1 : IntKind.i64.wrap (p1 + 1) = p2 := by rw [wrapI (by omega) (by omega), hq2]
    have nn1 : ¬ p2 < 0 := by omega
    obtain ⟨p3, hq3⟩ : ∃ p : Int, p = p2 + 1 := ⟨_, rfl⟩
    have ww2 : IntKind.i64.wrap (p2 + 1) = p3 := by rw [wrapI (by omega) (by omega), hq3]
    have nn2 : ¬ p3 < 0 := by omega
    simp only [← hq1, ← hq2, ← hq3] at hga
    simp [h, hga, sErr, ww0, nn0, ww1, nn1, ww2, nn2]
    refine ⟨xs.length - (i + 1), by omega, i + 1, by omega, rfl, ?_⟩
    rw [wrapI (by omega) (by omega)]
    simp; omega
  · have : i = xs.length := by omega
    subst this
    simp [Mk.pos_all]
end Go.Am
-- Node_hd
namespace Go.Am
open Go.Proofs
set_option maxHeartbeats 4000000
set_option maxRecDepth 100000
-- 102 loop.example/g00485/laws.heldNodeS
def k_laws_heldNodeS : K :=
 .seq (
  .reg none [⟨(some 4), none, .asn (.c (.int .i64 (0)))⟩]) (
 .seq (
  .seq (
   .reg none [⟨(some 5), none, .asn (.c (.int .i64 (0)))⟩]) (
  .block 0 (
   .loop (some ([0, 1, 5], [0, 1, 5, 1000])) (
    .seq (
     .seq (
      .reg none [⟨(some 6), none, .mv (.t 5)⟩,
        ⟨(some 7), none, .mv (.t 0)⟩,
        ⟨(some 8), none, .len (.t 7)⟩,
        ⟨(some 9), none, .bin .lss (.t 6) (.t 8)⟩]) (
     .cond (.t 9) (
      .skip) (
      .exit 0))) (
    .seq (
     .block 1 (
      .seq (
       .seq (
        .reg none [⟨(some 12), none, .mv (.t 0)⟩,
          ⟨(some 13), none, .mv (.t 5)⟩,
          ⟨(some 14), none, .iad 5 (.t 12) (.t 13)⟩,
          ⟨(some 15), none, .fad 0 (.t 14)⟩,
          ⟨(some 16), none, .ld 1 false (.t 15)⟩,
          ⟨(some 17), none, .mv (.t 1)⟩,
          ⟨(some 18), none, .bin .neq (.t 16) (.t 17)⟩]) (
       .cond (.t 18) (
        .seq (
         .reg none [⟨(some 4), none, .asn (.c (.int .i64 (-1)))⟩]) (
        .ret)) (
        .skip))) (
      .seq (
       .reg none [⟨(some 19), none, .mv (.t 1)⟩,
         ⟨(some 20), none, .bin .add (.t 19) (.c (.int .i64 (1)))⟩,
         ⟨(some 1), none, .asn (.t 20)⟩]) (
      .seq (
       .seq (
        .reg none [⟨(some 21), none, .mv (.t 0)⟩,
          ⟨(some 22), none, .mv (.t 5)⟩,
          ⟨(some 23), none, .iad 5 (.t 21) (.t 22)⟩,
          ⟨(some 24), none, .fad 1 (.t 23)⟩,
          ⟨(some 25), none, .ld 1 false (.t 24)⟩,
          ⟨(some 26), none, .mv (.t 1)⟩,
          ⟨(some 27), none, .bin .neq (.t 25) (.t 26)⟩]) (
       .cond (.t 27) (
        .seq (
         .reg none [⟨(some 4), none, .asn (.c (.int .i64 (-1)))⟩]) (
        .ret)) (
        .skip))) (
      .seq (
       .reg none [⟨(some 28), none, .mv (.t 1)⟩,
         ⟨(some 29), none, .bin .add (.t 28) (.c (.int .i64 (1)))⟩,
         ⟨(some 1), none, .asn (.t 29)⟩]) (
      .seq (
       .seq (
        .reg none [⟨(some 30), none, .mv (.t 0)⟩,
          ⟨(some 31), none, .mv (.t 5)⟩,
          ⟨(some 32), none, .iad 5 (.t 30) (.t 31)⟩,
          ⟨(some 33), none, .fad 2 (.t 32)⟩,
          ⟨(some 34), none, .ld 1 false (.t 33)⟩,
          ⟨(some 35), none, .mv (.t 1)⟩,
          ⟨(some 36), none, .bin .neq (.t 34) (.t 35)⟩]) (
       .cond (.t 36) (
        .seq (
         .reg none [⟨(some 4), none, .asn (.c (.int .i64 (-1)))⟩]) (
        .ret)) (
        .skip))) (
      .seq (
       .reg none [⟨(some 37), none, .mv (.t 1)⟩,
         ⟨(some 38), none, .bin .add (.t 37) (.c (.int .i64 (1)))⟩,
         ⟨(some 1), none, .asn (.t 38)⟩]) (
      .seq (
       .seq (
        .reg none [⟨(some 39), none, .mv (.t 0)⟩,
          ⟨(some 40), none, .mv (.t 5)⟩,
          ⟨(some 41), none, .iad 5 (.t 39) (.t 40)⟩,
          ⟨(some 42), none, .fad 3 (.t 41)⟩,
          ⟨(some 43), none, .ld 1 false (.t 42)⟩,
          ⟨(some 44), none, .mv (.t 1)⟩,
          ⟨(some 45), none, .bin .neq (.t 43) (.t 44)⟩]) (
       .cond (.t 45) (
        .seq (
         .reg none [⟨(some 4), none, .asn (.c (.int .i64 (-1)))⟩]) (
        .ret)) (
        .skip))) (
      .seq (
       .reg none [⟨(some 46), none, .mv (.t 1)⟩,
         ⟨(some 47), none, .bin .add (.t 46) (.c (.int .i64 (1)))⟩,
         ⟨(some 1), none, .asn (.t 47)⟩]) (
      .seq (
       .reg none [⟨(some 48), none, .mv (.t 0)⟩,
         ⟨(some 49), none, .mv (.t 5)⟩,
         ⟨(some 50), none, .iad 5 (.t 48) (.t 49)⟩,
         ⟨(some 51), none, .fad 4 (.t 50)⟩,
         ⟨(some 52), none, .ld 1 false (.t 51)⟩,
         ⟨(some 53), none, .mv (.t 1)⟩,
         ⟨(some 54), none, .call 63 [(.t 52), (.t 53)]⟩,
         ⟨(some 1), none, .asn (.t 54)⟩]) (
      .seq (
       .reg none [⟨(some 55), none, .mv (.t 1)⟩,
         ⟨(some 56), none, .bin .lss (.t 55) (.c (.int .i64 (0)))⟩]) (
      .cond (.t 56) (
       .seq (
        .reg none [⟨(some 4), none, .asn (.c (.int .i64 (-1)))⟩]) (
       .ret)) (
       .skip))))))))))))) (
    .reg none [⟨(some 10), none, .mv (.t 5)⟩,
      ⟨(some 11), none, .bin .add (.t 10) (.c (.int .i64 (1)))⟩,
      ⟨(some 5), none, .asn (.t 11)⟩])))))) (
 .seq (
  .reg none [⟨(some 57), none, .mv (.t 1)⟩,
    ⟨(some 4), none, .asn (.t 57)⟩]) (
 .ret)))
def r_laws_heldNodeS : Nat × List RV := (58, [.t 4])

theorem c_laws_heldNodeS : cmpS PT PF PA (Try.prog.funcs[102]?) = some (r_laws_heldNodeS.1, r_laws_heldNodeS.2, stripK k_laws_heldNodeS) := by kernel_rfl

theorem h_heldNodeS (xs : List TNode) (k : Int) (hk : 0 ≤ k) (hk2 : k + mNode.nL xs < 2 ^ 50) (hk3 : wL wNode xs < 2 ^ 50) : CallsF Try.prog 102 [.one (.ar false 0 5 ((mNode.mkL xs k).map sNode)), aI k] (aI (k + mNode.nL xs)) := by
  refine Prun c_laws_heldNodeS (by simp [r_laws_heldNodeS]) (by simp) ?_
  unfold k_laws_heldNodeS r_laws_heldNodeS
  have hlen := wL_len wNode xs
  simp
  refine awp_loop (fun n σ => ∃ i : Nat, i ≤ xs.length ∧ n = xs.length - i ∧ σ = ⟨[(0, .one (.ar false 0 5 ((mNode.mkL xs k).map sNode))), (1, aI (mNode.pos xs k i)), (5, aI i)], []⟩) (xs.length) ⟨0, by simp [Mk.pos_zero]⟩ ?_
  rintro n σ ⟨i, hi, rfl, rfl⟩
  have hp1 : mNode.pos xs k i ≤ k + mNode.nL xs := Mk.pos_le hi
  have hp2 : k ≤ mNode.pos xs k i := Mk.pos_ge
  by_cases h : i < xs.length
  · have hw := wL_get wNode xs i h
    have hpst : mNode.pos xs k (i + 1) = mNode.pos xs k i + mNode.n xs[i] := Mk.pos_step h
    have hle : mNode.pos xs k (i + 1) ≤ k + mNode.nL xs := Mk.pos_le h
    have hga := Mk.mkL_at (M := mNode) (k := k) h
    generalize hκ : mNode.pos xs k i = p0 at *
    rcases ha : xs[i] with ⟨bkind, bsym, balt, bpos, bkids⟩
    simp only [ha, mNode_n, mNode_wr] at hpst hga
    simp only [ha, wNode] at hw
    obtain ⟨p1, hq1⟩ : ∃ p : Int, p = p0 + 1 := ⟨_, rfl⟩
    have ww0 : IntKind.i64.wrap (p0 + 1) = p1 := by rw [wrapI (by omega) (by omega), hq1]
    have nn0 : ¬ p1 < 0 := by omega
    obtain ⟨p2, hq2⟩ : ∃ p : Int, p = p1 + 1 := ⟨_, rfl⟩
    have ww1 : IntKind.i64.wrap (p1 + 1) = p2 := by rw [wrapI (by omega) (by omega), hq2]
    have nn1 : ¬ p2 < 0 := by omega
    obtain ⟨p3, hq3⟩ : ∃ p : Int, p = p2 + 1 := ⟨_, rfl⟩
    have ww2 : IntKind.i64.wrap (p2 + 1) = p3 := by rw [wrapI (by omega) (by omega), hq3]
    have nn2 : ¬ p3 < 0 := by omega
    obtain ⟨p4, hq4⟩ : ∃ p : Int, p = p3 + 1 := ⟨_, rfl⟩
    have ww3 : IntKind.i64.wrap (p3 + 1) = p4 := by rw [wrapI (by omega) (by omega), hq4]
    have nn3 : ¬ p4 < 0 := by omega
    obtain ⟨p5, hq5⟩ : ∃ p : Int, p = p4 + (mI.nL bkids : Int) := ⟨_, rfl⟩
    have nn4 : ¬ p5 < 0 := by omega
    simp only [← hq1, ← hq2, ← hq3, ← hq4, ← hq5] at hga
    simp [h, hga, sNode, ww0, nn0, ww1, nn1, ww2, nn2, ww3, nn3, nn4]
    have hc4 := h_heldIntS bkids p4 (by omega) (by omega)
    rw [← hq5] at hc4
    refine callG_F hc4 (by simp) ?_
    simp [h, hga, sNode, ww0, nn0, ww1, nn1, ww2, nn2, ww3, nn3, nn4]
    refine ⟨xs.length - (i + 1), by omega, i + 1, by omega, rfl, ?_⟩
    rw [wrapI (by omega) (by omega)]
    simp; omega
  · have : i = xs.length := by omega
    subst this
    simp [Mk.pos_all]
end Go.Am
