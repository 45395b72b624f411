/- Text 1 of 3 for FnExactFinish: codes of the functions that it reaches and their contracts over trees. No condition. -/
import Derived.Test.YtfcbminodkjklaaAm6
import Derived.Test.YtfcbminodkjklaaProg
set_option linter.unusedVariables false
set_option linter.unusedSimpArgs false
namespace Go.Am
open Go.Proofs
noncomputable def PT : List (Nat × TI) := mkT Try.prog (List.range 267)
noncomputable def PF : List Nat := mkF Try.prog (List.range 238)
def PA : An := ⟨[], false, true, [(13, 0), (23, 0), (24, 0), (25, 0), (32, 0), (50, 0), (56, 1), (62, 0), (91, 0), (98, 0), (99, 0), (100, 0), (118, 0), (136, 0), (140, 0), (154, 0)], false, [(70, 1), (139, 1), (162, 1), (168, 3), (189, 3), (198, 3)], [(80, [5])]⟩
def PB : An := ⟨[], false, true, [(13, 0), (23, 0), (24, 0), (25, 0), (32, 0), (50, 0), (56, 1), (62, 0), (91, 0), (98, 0), (99, 0), (100, 0), (118, 0), (136, 0), (140, 0), (154, 0)], true, [(70, 1), (139, 1), (162, 1), (168, 3), (189, 3), (198, 3)], [(80, [5])]⟩
theorem Pmo : PA.mo = true → Try.prog.follows .mixedOrders = true := fun _ => by kernel_rfl
theorem PmoB : PB.mo = true → Try.prog.follows .mixedOrders = true := fun _ => by kernel_rfl
theorem Prun {f : FuncId} {k : K} {r : Nat × List RV} {args : List A} {v : A} (hc : cmpS PT PF PA (Try.prog.funcs[f]?) = some (r.1, r.2, stripK k)) (hn : args.length ≤ r.1) (hn2 : args.length ≤ 1000)
    (h : awp Try.prog k (FPost' r.2 fun a H => H = [] ∧ a = v) (entry args [])) : CallsF Try.prog f args v := callF_run (mkT_ok _ _) (mkF_ok _ _) PA Pmo hc hn hn2 h
theorem PrunA {f : FuncId} {k : K} {r : Nat × List RV} {args : List A} {H : List (Nat × Obj)} {R : A → List (Nat × Obj) → Prop} (hc : cmpS PT PF PA (Try.prog.funcs[f]?) = some (r.1, r.2, stripK k)) (hn : args.length ≤ r.1) (hn2 : args.length ≤ 1000)
    (h : awp Try.prog k (FPost' r.2 R) (entry args H)) : CallsA Try.prog f args H R := calls_runS (mkT_ok _ _) (mkF_ok _ _) PA Pmo hc hn hn2 h
theorem PfnOk (f : Nat) (h : PF.contains f = true) : FnOk Try.prog f := fnOk_of (mkF_ok _ _) h
theorem PrunB {f : FuncId} {k : K} {r : Nat × List RV} {args : List A} {H : List (Nat × Obj)} {R : A → List (Nat × Obj) → Prop} (hc : cmpS PT PF PB (Try.prog.funcs[f]?) = some (r.1, r.2, stripK k)) (hn : args.length ≤ r.1) (hn2 : args.length ≤ 1000)
    (h : awp Try.prog k (FPost' r.2 R) (entry args H)) : CallsA Try.prog f args H R := calls_runS (mkT_ok _ _) (mkF_ok _ _) PB PmoB hc hn hn2 h
theorem PrunBF {f : FuncId} {k : K} {r : Nat × List RV} {args : List A} {v : A} (hc : cmpS PT PF PB (Try.prog.funcs[f]?) = some (r.1, r.2, stripK k)) (hn : args.length ≤ r.1) (hn2 : args.length ≤ 1000)
    (h : awp Try.prog k (FPost' r.2 fun a H => H = [] ∧ a = v) (entry args [])) : CallsF Try.prog f args v := callF_run (mkT_ok _ _) (mkF_ok _ _) PB PmoB hc hn hn2 h
end Go.Am
-- ints
namespace Go.Am
open Go.Proofs
set_option maxHeartbeats 4000000
set_option maxRecDepth 100000
-- 22 loop.example/g00485/laws.eqIntS
def k_laws_eqIntS : K :=
 .seq (
  .reg none [⟨(some 4), none, .asn (.c (.bool false))⟩]) (
 .seq (
  .seq (
   .reg none [⟨(some 6), none, .mv (.t 0)⟩,
     ⟨(some 7), none, .len (.t 6)⟩,
     ⟨(some 8), none, .mv (.t 1)⟩,
     ⟨(some 9), none, .len (.t 8)⟩,
     ⟨(some 10), none, .bin .neq (.t 7) (.t 9)⟩]) (
  .cond (.t 10) (
   .seq (
    .reg none [⟨(some 4), none, .asn (.c (.bool false))⟩]) (
   .ret)) (
   .skip))) (
 .seq (
  .seq (
   .reg none [⟨(some 5), none, .asn (.c (.int .i64 (0)))⟩]) (
  .block 0 (
   .loop (some ([0, 1, 5], [0, 1, 5, 1000])) (
    .seq (
     .seq (
      .reg none [⟨(some 11), none, .mv (.t 5)⟩,
        ⟨(some 12), none, .mv (.t 0)⟩,
        ⟨(some 13), none, .len (.t 12)⟩,
        ⟨(some 14), none, .bin .lss (.t 11) (.t 13)⟩]) (
     .cond (.t 14) (
      .skip) (
      .exit 0))) (
    .seq (
     .block 1 (
      .seq (
       .drw none 9 [⟨(some 17), none, .mv (.t 0)⟩,
         ⟨(some 18), none, .mv (.t 5)⟩,
         ⟨(some 19), none, .iad 1 (.t 17) (.t 18)⟩,
         ⟨(some 20), none, .ld 1 false (.t 19)⟩,
         ⟨(some 21), none, .mv (.t 1)⟩,
         ⟨(some 22), none, .mv (.t 5)⟩,
         ⟨(some 23), none, .iad 1 (.t 21) (.t 22)⟩,
         ⟨(some 24), none, .ld 1 false (.t 23)⟩,
         ⟨(some 25), none, .bin .neq (.t 20) (.t 24)⟩]) (
      .cond (.t 25) (
       .seq (
        .reg none [⟨(some 4), none, .asn (.c (.bool false))⟩]) (
       .ret)) (
       .skip)))) (
    .reg none [⟨(some 15), none, .mv (.t 5)⟩,
      ⟨(some 16), none, .bin .add (.t 15) (.c (.int .i64 (1)))⟩,
      ⟨(some 5), none, .asn (.t 16)⟩])))))) (
 .seq (
  .reg none [⟨(some 4), none, .asn (.c (.bool true))⟩]) (
 .ret))))
def r_laws_eqIntS : Nat × List RV := (26, [.t 4])

theorem c_laws_eqIntS : cmpS PT PF PA (Try.prog.funcs[22]?) = some (r_laws_eqIntS.1, r_laws_eqIntS.2, stripK k_laws_eqIntS) := by kernel_rfl

theorem h_eqIntS (xs : List Int) (hx : wL w0 xs < 2 ^ 40) : CallsF Try.prog 22 [.one (.ar false 0 1 (xs.map rI)), .one (.ar false 0 1 (xs.map rI))] (aB true) := by
  refine Prun c_laws_eqIntS (by simp [r_laws_eqIntS]) (by simp) ?_
  unfold k_laws_eqIntS r_laws_eqIntS
  rw [wL_w0] at hx
  simp
  refine awp_loop (fun n σ => ∃ i : Nat, i ≤ xs.length ∧ n = xs.length - i ∧ σ = ⟨[(0, .one (.ar false 0 1 (xs.map rI))), (1, .one (.ar false 0 1 (xs.map rI))), (5, aI i)], []⟩) (xs.length) ⟨0, by simp⟩ ?_
  rintro n σ ⟨i, hi, rfl, rfl⟩
  by_cases h : i < xs.length
  · simp [h]
    refine ⟨xs.length - (i + 1), by omega, i + 1, by omega, rfl, ?_⟩
    rw [wrapI (by omega) (by omega)]
    simp
  · simp [h]
-- 18 loop.example/g00485/laws.toIntS
def k_laws_toIntS : K :=
 .seq (
  .reg none [⟨(some 2), none, .asn (.c (.ar true 3 1 []))⟩]) (
 .seq (
  .reg none [⟨(some 5), none, .mv (.t 0)⟩,
    ⟨(some 6), none, .len (.t 5)⟩,
    ⟨(some 7), none, .mks 3 1 8 [(.int .i64 (0))] (.t 6) (.t 6)⟩,
    ⟨(some 3), none, .asn (.t 7)⟩]) (
 .seq (
  .seq (
   .reg none [⟨(some 4), none, .asn (.c (.int .i64 (0)))⟩]) (
  .block 0 (
   .loop (some ([0, 3, 4], [0, 3, 4, 1000])) (
    .seq (
     .seq (
      .reg none [⟨(some 8), none, .mv (.t 4)⟩,
        ⟨(some 9), none, .mv (.t 0)⟩,
        ⟨(some 10), none, .len (.t 9)⟩,
        ⟨(some 11), none, .bin .lss (.t 8) (.t 10)⟩]) (
     .cond (.t 11) (
      .skip) (
      .exit 0))) (
    .seq (
     .block 1 (
      .reg none [⟨(some 14), none, .mv (.t 3)⟩,
        ⟨(some 15), none, .mv (.t 4)⟩,
        ⟨(some 16), none, .mv (.t 0)⟩,
        ⟨(some 17), none, .mv (.t 4)⟩,
        ⟨(some 18), none, .iad 1 (.t 16) (.t 17)⟩,
        ⟨(some 19), none, .ld 1 false (.t 18)⟩,
        ⟨(some 20), none, .iad 1 (.t 14) (.t 15)⟩,
        ⟨none, none, .st 1 false (.t 20) (.t 19)⟩])) (
    .reg none [⟨(some 12), none, .mv (.t 4)⟩,
      ⟨(some 13), none, .bin .add (.t 12) (.c (.int .i64 (1)))⟩,
      ⟨(some 4), none, .asn (.t 13)⟩])))))) (
 .seq (
  .reg none [⟨(some 21), none, .mv (.t 3)⟩,
    ⟨(some 2), none, .asn (.t 21)⟩]) (
 .ret))))
def r_laws_toIntS : Nat × List RV := (22, [.t 2])

theorem c_laws_toIntS : cmpS PT PF PA (Try.prog.funcs[18]?) = some (r_laws_toIntS.1, r_laws_toIntS.2, stripK k_laws_toIntS) := by kernel_rfl

theorem h_toIntS (xs : List Int) (hx : wL w0 xs < 2 ^ 31) : CallsF Try.prog 18 [.one (.ar false 0 1 (xs.map rI))] (.one (.ar true 3 1 (xs.map rI))) := by
  refine Prun c_laws_toIntS (by simp [r_laws_toIntS]) (by simp) ?_
  unfold k_laws_toIntS r_laws_toIntS
  rw [wL_w0] at hx
  have hc : ((xs.length : Int) ≤ 4294967296) := by omega
  simp [hc]
  refine awp_loop (fun n σ => ∃ i : Nat, i ≤ xs.length ∧ n = xs.length - i ∧ σ = ⟨[(0, .one (.ar false 0 1 (xs.map rI))), (3, .one (.vw 3 1 3 [] 0 xs.length)), (4, aI i)], [(3, ⟨3, 1, part rI [.int .i64 0] xs i⟩)]⟩) (xs.length) ⟨0, by simp [part_zero]⟩ ?_
  rintro n σ ⟨i, hi, rfl, rfl⟩
  by_cases h : i < xs.length
  · simp [h, part_get h]
    refine ⟨xs.length - (i + 1), by omega, i + 1, by omega, rfl, ?_⟩
    rw [wrapI (by omega) (by omega)]
    have := part_set (r := rI) (z := [.int .i64 0]) h
    simp only [rI] at this
    simp [this]
  · have : i = xs.length := by omega
    subst this
    simp [part_all]
end Go.Am
-- Err_y
namespace Go.Am
open Go.Proofs
set_option maxHeartbeats 4000000
set_option maxRecDepth 100000
structure TErr where
  kind : Int
  pos : Int
  sym : Int
  deriving DecidableEq, Inhabited
def rErr (a : TErr) : List C := [cI a.kind, cI a.pos, cI a.sym]
def sErr (a : TErr) : List C := [cI a.kind, cI a.pos, cI a.sym]
def zErr : List C := [cI 0, cI 0, cI 0]
@[simp] theorem rErr_len (a : TErr) : (rErr a).length = 3 := rfl
@[simp] theorem sErr_len (a : TErr) : (sErr a).length = 3 := rfl
@[simp] theorem shr_rErr (a : TErr) : shrRow (rErr a) = sErr a := by simp [rErr, sErr]
@[simp] theorem shr_sErr (a : TErr) : shrRow (sErr a) = sErr a := by simp [sErr]
@[simp] theorem shrs_rErr (xs : List TErr) : shrRows (xs.map rErr) = xs.map sErr := shrRows_of shr_rErr xs
@[simp] theorem shrs_sErr (xs : List TErr) : shrRows (xs.map sErr) = xs.map sErr := shrRows_of shr_sErr xs
@[simp] theorem noSh_rErr (xs : List TErr) : noShRows (xs.map rErr) = true := noSh_of (fun a => by simp [rErr]) xs
def wErr (_ : TErr) : Nat := 0
def lErr (_ : TErr) : Prop := True
def mErr : Mk TErr := ⟨fun _ k => ⟨k, k + 1, k + 1 + 1⟩, fun _ => 1 + 1 + 1⟩
@[simp] theorem mErr_wr (a : TErr) (k : Int) : mErr.wr a k = ⟨k, k + 1, k + 1 + 1⟩ := rfl
@[simp] theorem mErr_n (a : TErr) : mErr.n a = 1 + 1 + 1 := rfl
end Go.Am
-- Slot_y
namespace Go.Am
open Go.Proofs
set_option maxHeartbeats 4000000
set_option maxRecDepth 100000
attribute [-simp] rErr_len sErr_len shr_rErr shr_sErr shrs_rErr shrs_sErr noSh_rErr mErr_wr mErr_n
structure TSlot where
  sym : Int
  up : Int
  deriving DecidableEq, Inhabited
def rSlot (a : TSlot) : List C := [cI a.sym, cI a.up]
def sSlot (a : TSlot) : List C := [cI a.sym, cI a.up]
def zSlot : List C := [cI 0, cI 0]
@[simp] theorem rSlot_len (a : TSlot) : (rSlot a).length = 2 := rfl
@[simp] theorem sSlot_len (a : TSlot) : (sSlot a).length = 2 := rfl
@[simp] theorem shr_rSlot (a : TSlot) : shrRow (rSlot a) = sSlot a := by simp [rSlot, sSlot]
@[simp] theorem shr_sSlot (a : TSlot) : shrRow (sSlot a) = sSlot a := by simp [sSlot]
@[simp] theorem shrs_rSlot (xs : List TSlot) : shrRows (xs.map rSlot) = xs.map sSlot := shrRows_of shr_rSlot xs
@[simp] theorem shrs_sSlot (xs : List TSlot) : shrRows (xs.map sSlot) = xs.map sSlot := shrRows_of shr_sSlot xs
@[simp] theorem noSh_rSlot (xs : List TSlot) : noShRows (xs.map rSlot) = true := noSh_of (fun a => by simp [rSlot]) xs
def wSlot (_ : TSlot) : Nat := 0
def lSlot (_ : TSlot) : Prop := True
def mSlot : Mk TSlot := ⟨fun _ k => ⟨k, k + 1⟩, fun _ => 1 + 1⟩
@[simp] theorem mSlot_wr (a : TSlot) (k : Int) : mSlot.wr a k = ⟨k, k + 1⟩ := rfl
@[simp] theorem mSlot_n (a : TSlot) : mSlot.n a = 1 + 1 := rfl
end Go.Am
-- Node_y
namespace Go.Am
open Go.Proofs
set_option maxHeartbeats 4000000
set_option maxRecDepth 100000
attribute [-simp] rErr_len sErr_len shr_rErr shr_sErr shrs_rErr shrs_sErr noSh_rErr mErr_wr mErr_n rSlot_len sSlot_len shr_rSlot shr_sSlot shrs_rSlot shrs_sSlot noSh_rSlot mSlot_wr mSlot_n
structure TNode where
  kind : Int
  sym : Int
  alt : Int
  pos : Int
  kids : List Int
  deriving DecidableEq, Inhabited
def rNode (a : TNode) : List C := [cI a.kind, cI a.sym, cI a.alt, cI a.pos, .ar true 3 1 (a.kids.map rI)]
def sNode (a : TNode) : List C := [cI a.kind, cI a.sym, cI a.alt, cI a.pos, .ar false 0 1 (a.kids.map rI)]
def zNode : List C := [cI 0, cI 0, cI 0, cI 0, .ar true 3 1 []]
@[simp] theorem rNode_len (a : TNode) : (rNode a).length = 5 := rfl
@[simp] theorem sNode_len (a : TNode) : (sNode a).length = 5 := rfl
@[simp] theorem shr_rNode (a : TNode) : shrRow (rNode a) = sNode a := by simp [rNode, sNode]
@[simp] theorem shr_sNode (a : TNode) : shrRow (sNode a) = sNode a := by simp [sNode]
@[simp] theorem shrs_rNode (xs : List TNode) : shrRows (xs.map rNode) = xs.map sNode := shrRows_of shr_rNode xs
@[simp] theorem shrs_sNode (xs : List TNode) : shrRows (xs.map sNode) = xs.map sNode := shrRows_of shr_sNode xs
@[simp] theorem noSh_rNode (xs : List TNode) : noShRows (xs.map rNode) = true := noSh_of (fun a => by simp [rNode]) xs
def wNode (a : TNode) : Nat := wL w0 a.kids
def lNode (a : TNode) : Prop := lL l0 a.kids
def mNode : Mk TNode := ⟨fun a k => ⟨k, k + 1, k + 1 + 1, k + 1 + 1 + 1, mI.mkL a.kids (k + 1 + 1 + 1 + 1)⟩, fun a => 1 + 1 + 1 + 1 + mI.nL a.kids⟩
@[simp] theorem mNode_wr (a : TNode) (k : Int) : mNode.wr a k = ⟨k, k + 1, k + 1 + 1, k + 1 + 1 + 1, mI.mkL a.kids (k + 1 + 1 + 1 + 1)⟩ := rfl
@[simp] theorem mNode_n (a : TNode) : mNode.n a = 1 + 1 + 1 + 1 + mI.nL a.kids := rfl
end Go.Am
-- Tree_y
namespace Go.Am
open Go.Proofs
set_option maxHeartbeats 4000000
set_option maxRecDepth 100000
attribute [-simp] rErr_len sErr_len shr_rErr shr_sErr shrs_rErr shrs_sErr noSh_rErr mErr_wr mErr_n rSlot_len sSlot_len shr_rSlot shr_sSlot shrs_rSlot shrs_sSlot noSh_rSlot mSlot_wr mSlot_n
structure TTree where
  nodes : List TNode
  deriving DecidableEq, Inhabited
def rTree (a : TTree) : List C := [.ar true 185 5 (a.nodes.map rNode)]
def sTree (a : TTree) : List C := [.ar false 0 5 (a.nodes.map sNode)]
def zTree : List C := [.ar true 185 5 []]
@[simp] theorem rTree_len (a : TTree) : (rTree a).length = 1 := rfl
@[simp] theorem sTree_len (a : TTree) : (sTree a).length = 1 := rfl
@[simp] theorem shr_rTree (a : TTree) : shrRow (rTree a) = sTree a := by simp [rTree, sTree]
@[simp] theorem shr_sTree (a : TTree) : shrRow (sTree a) = sTree a := by simp [sTree]
@[simp] theorem shrs_rTree (xs : List TTree) : shrRows (xs.map rTree) = xs.map sTree := shrRows_of shr_rTree xs
@[simp] theorem shrs_sTree (xs : List TTree) : shrRows (xs.map sTree) = xs.map sTree := shrRows_of shr_sTree xs
@[simp] theorem noSh_rTree (xs : List TTree) : noShRows (xs.map rTree) = true := noSh_of (fun a => by simp [rTree]) xs
def wTree (a : TTree) : Nat := wL wNode a.nodes
def lTree (a : TTree) : Prop := lL lNode a.nodes
def mTree : Mk TTree := ⟨fun a k => ⟨mNode.mkL a.nodes (k)⟩, fun a => mNode.nL a.nodes⟩
@[simp] theorem mTree_wr (a : TTree) (k : Int) : mTree.wr a k = ⟨mNode.mkL a.nodes (k)⟩ := rfl
@[simp] theorem mTree_n (a : TTree) : mTree.n a = mNode.nL a.nodes := rfl
end Go.Am
-- Run_y
namespace Go.Am
open Go.Proofs
set_option maxHeartbeats 4000000
set_option maxRecDepth 100000
structure TRun where
  code : Int
  pos : Int
  look : Int
  cost : Int
  slots : List TSlot
  tree : TTree
  errs : List TErr
  deriving DecidableEq, Inhabited
def rRun (a : TRun) : List C := [cI a.code, cI a.pos, cI a.look, cI a.cost, .ar true 183 2 (a.slots.map rSlot), .ar true 185 5 (a.tree.nodes.map rNode), .ar true 187 3 (a.errs.map rErr)]
def sRun (a : TRun) : List C := [cI a.code, cI a.pos, cI a.look, cI a.cost, .ar false 0 2 (a.slots.map sSlot), .ar false 0 5 (a.tree.nodes.map sNode), .ar false 0 3 (a.errs.map sErr)]
def zRun : List C := [cI 0, cI 0, cI 0, cI 0, .ar true 183 2 [], .ar true 185 5 [], .ar true 187 3 []]
@[simp] theorem rRun_len (a : TRun) : (rRun a).length = 7 := rfl
@[simp] theorem sRun_len (a : TRun) : (sRun a).length = 7 := rfl
@[simp] theorem shr_rRun (a : TRun) : shrRow (rRun a) = sRun a := by simp [rRun, sRun]
@[simp] theorem shr_sRun (a : TRun) : shrRow (sRun a) = sRun a := by simp [sRun]
@[simp] theorem shrs_rRun (xs : List TRun) : shrRows (xs.map rRun) = xs.map sRun := shrRows_of shr_rRun xs
@[simp] theorem shrs_sRun (xs : List TRun) : shrRows (xs.map sRun) = xs.map sRun := shrRows_of shr_sRun xs
@[simp] theorem noSh_rRun (xs : List TRun) : noShRows (xs.map rRun) = true := noSh_of (fun a => by simp [rRun]) xs
def wRun (a : TRun) : Nat := wL wSlot a.slots + wTree a.tree + wL wErr a.errs
def lRun (a : TRun) : Prop := lL lSlot a.slots ∧ lTree a.tree ∧ lL lErr a.errs
def mRun : Mk TRun := ⟨fun a k => ⟨k, k + 1, k + 1 + 1, k + 1 + 1 + 1, mSlot.mkL a.slots (k + 1 + 1 + 1 + 1), ⟨mNode.mkL a.tree.nodes (k + 1 + 1 + 1 + 1 + mSlot.nL a.slots)⟩, mErr.mkL a.errs (k + 1 + 1 + 1 + 1 + mSlot.nL a.slots + mNode.nL a.tree.nodes)⟩, fun a => 1 + 1 + 1 + 1 + mSlot.nL a.slots + mNode.nL a.tree.nodes + mErr.nL a.errs⟩
@[simp] theorem mRun_wr (a : TRun) (k : Int) : mRun.wr a k = ⟨k, k + 1, k + 1 + 1, k + 1 + 1 + 1, mSlot.mkL a.slots (k + 1 + 1 + 1 + 1), ⟨mNode.mkL a.tree.nodes (k + 1 + 1 + 1 + 1 + mSlot.nL a.slots)⟩, mErr.mkL a.errs (k + 1 + 1 + 1 + 1 + mSlot.nL a.slots + mNode.nL a.tree.nodes)⟩ := rfl
@[simp] theorem mRun_n (a : TRun) : mRun.n a = 1 + 1 + 1 + 1 + mSlot.nL a.slots + mNode.nL a.tree.nodes + mErr.nL a.errs := rfl
end Go.Am
-- Job_y
namespace Go.Am
open Go.Proofs
set_option maxHeartbeats 4000000
set_option maxRecDepth 100000
structure TJob where
  ticket : Int
  gram : Int
  input : List Int
  run : TRun
  deriving DecidableEq, Inhabited
def rJob (a : TJob) : List C := [cI a.ticket, cI a.gram, .ar true 3 1 (a.input.map rI), cI a.run.code, cI a.run.pos, cI a.run.look, cI a.run.cost, .ar true 183 2 (a.run.slots.map rSlot), .ar true 185 5 (a.run.tree.nodes.map rNode), .ar true 187 3 (a.run.errs.map rErr)]
def sJob (a : TJob) : List C := [cI a.ticket, cI a.gram, .ar false 0 1 (a.input.map rI), cI a.run.code, cI a.run.pos, cI a.run.look, cI a.run.cost, .ar false 0 2 (a.run.slots.map sSlot), .ar false 0 5 (a.run.tree.nodes.map sNode), .ar false 0 3 (a.run.errs.map sErr)]
def zJob : List C := [cI 0, cI 0, .ar true 3 1 [], cI 0, cI 0, cI 0, cI 0, .ar true 183 2 [], .ar true 185 5 [], .ar true 187 3 []]
@[simp] theorem rJob_len (a : TJob) : (rJob a).length = 10 := rfl
@[simp] theorem sJob_len (a : TJob) : (sJob a).length = 10 := rfl
@[simp] theorem shr_rJob (a : TJob) : shrRow (rJob a) = sJob a := by simp [rJob, sJob]
@[simp] theorem shr_sJob (a : TJob) : shrRow (sJob a) = sJob a := by simp [sJob]
@[simp] theorem shrs_rJob (xs : List TJob) : shrRows (xs.map rJob) = xs.map sJob := shrRows_of shr_rJob xs
@[simp] theorem shrs_sJob (xs : List TJob) : shrRows (xs.map sJob) = xs.map sJob := shrRows_of shr_sJob xs
@[simp] theorem noSh_rJob (xs : List TJob) : noShRows (xs.map rJob) = true := noSh_of (fun a => by simp [rJob]) xs
def wJob (a : TJob) : Nat := wL w0 a.input + wRun a.run
def lJob (a : TJob) : Prop := lL l0 a.input ∧ lRun a.run
def mJob : Mk TJob := ⟨fun a k => ⟨k, k + 1, mI.mkL a.input (k + 1 + 1), ⟨k + 1 + 1 + mI.nL a.input, k + 1 + 1 + mI.nL a.input + 1, k + 1 + 1 + mI.nL a.input + 1 + 1, k + 1 + 1 + mI.nL a.input + 1 + 1 + 1, mSlot.mkL a.run.slots (k + 1 + 1 + mI.nL a.input + 1 + 1 + 1 + 1), ⟨mNode.mkL a.run.tree.nodes (k + 1 + 1 + mI.nL a.input + 1 + 1 + 1 + 1 + mSlot.nL a.run.slots)⟩, mErr.mkL a.run.errs (k + 1 + 1 + mI.nL a.input + 1 + 1 + 1 + 1 + mSlot.nL a.run.slots + mNode.nL a.run.tree.nodes)⟩⟩, fun a => 1 + 1 + mI.nL a.input + 1 + 1 + 1 + 1 + mSlot.nL a.run.slots + mNode.nL a.run.tree.nodes + mErr.nL a.run.errs⟩
@[simp] theorem mJob_wr (a : TJob) (k : Int) : mJob.wr a k = ⟨k, k + 1, mI.mkL a.input (k + 1 + 1), ⟨k + 1 + 1 + mI.nL a.input, k + 1 + 1 + mI.nL a.input + 1, k + 1 + 1 + mI.nL a.input + 1 + 1, k + 1 + 1 + mI.nL a.input + 1 + 1 + 1, mSlot.mkL a.run.slots (k + 1 + 1 + mI.nL a.input + 1 + 1 + 1 + 1), ⟨mNode.mkL a.run.tree.nodes (k + 1 + 1 + mI.nL a.input + 1 + 1 + 1 + 1 + mSlot.nL a.run.slots)⟩, mErr.mkL a.run.errs (k + 1 + 1 + mI.nL a.input + 1 + 1 + 1 + 1 + mSlot.nL a.run.slots + mNode.nL a.run.tree.nodes)⟩⟩ := rfl
@[simp] theorem mJob_n (a : TJob) : mJob.n a = 1 + 1 + mI.nL a.input + 1 + 1 + 1 + 1 + mSlot.nL a.run.slots + mNode.nL a.run.tree.nodes + mErr.nL a.run.errs := rfl
end Go.Am
-- Outcome_y
namespace Go.Am
open Go.Proofs
set_option maxHeartbeats 4000000
set_option maxRecDepth 100000
attribute [-simp] rErr_len sErr_len shr_rErr shr_sErr shrs_rErr shrs_sErr noSh_rErr mErr_wr mErr_n rSlot_len sSlot_len shr_rSlot shr_sSlot shrs_rSlot shrs_sSlot noSh_rSlot mSlot_wr mSlot_n rNode_len sNode_len shr_rNode shr_sNode shrs_rNode shrs_sNode noSh_rNode mNode_wr mNode_n rTree_len sTree_len shr_rTree shr_sTree shrs_rTree shrs_sTree noSh_rTree mTree_wr mTree_n rRun_len sRun_len shr_rRun shr_sRun shrs_rRun shrs_sRun noSh_rRun mRun_wr mRun_n rJob_len sJob_len shr_rJob shr_sJob shrs_rJob shrs_sJob noSh_rJob mJob_wr mJob_n
structure TOutcome where
  ticket : Int
  code : Int
  text : ByteArray
  deriving DecidableEq, Inhabited
def rOutcome (a : TOutcome) : List C := [cI a.ticket, cI a.code, .str a.text]
def sOutcome (a : TOutcome) : List C := [cI a.ticket, cI a.code, .str a.text]
def zOutcome : List C := [cI 0, cI 0, .str ⟨#[]⟩]
@[simp] theorem rOutcome_len (a : TOutcome) : (rOutcome a).length = 3 := rfl
@[simp] theorem sOutcome_len (a : TOutcome) : (sOutcome a).length = 3 := rfl
@[simp] theorem shr_rOutcome (a : TOutcome) : shrRow (rOutcome a) = sOutcome a := by simp [rOutcome, sOutcome]
@[simp] theorem shr_sOutcome (a : TOutcome) : shrRow (sOutcome a) = sOutcome a := by simp [sOutcome]
@[simp] theorem shrs_rOutcome (xs : List TOutcome) : shrRows (xs.map rOutcome) = xs.map sOutcome := shrRows_of shr_rOutcome xs
@[simp] theorem shrs_sOutcome (xs : List TOutcome) : shrRows (xs.map sOutcome) = xs.map sOutcome := shrRows_of shr_sOutcome xs
@[simp] theorem noSh_rOutcome (xs : List TOutcome) : noShRows (xs.map rOutcome) = true := noSh_of (fun a => by simp [rOutcome]) xs
def wOutcome (a : TOutcome) : Nat := a.text.size
def lOutcome (a : TOutcome) : Prop := a.text.size < 2 ^ 63
def mOutcome : Mk TOutcome := ⟨fun _ k => ⟨k, k + 1, mtx (k + 1 + 1)⟩, fun _ => 1 + 1 + 1⟩
@[simp] theorem mOutcome_wr (a : TOutcome) (k : Int) : mOutcome.wr a k = ⟨k, k + 1, mtx (k + 1 + 1)⟩ := rfl
@[simp] theorem mOutcome_n (a : TOutcome) : mOutcome.n a = 1 + 1 + 1 := rfl
end Go.Am
-- Tenant_y
namespace Go.Am
open Go.Proofs
set_option maxHeartbeats 4000000
set_option maxRecDepth 100000
structure TTenant where
  quantum : Int
  cls : Int
  budget : Int
  used : Int
  wait : Int
  turns : Int
  next : Int
  due : Int
  queue : List TJob
  out : List TOutcome
  deriving DecidableEq, Inhabited
def rTenant (a : TTenant) : List C := [cI a.quantum, cI a.cls, cI a.budget, cI a.used, cI a.wait, cI a.turns, cI a.next, cI a.due, .ar true 133 10 (a.queue.map rJob), .ar true 102 3 (a.out.map rOutcome)]
def sTenant (a : TTenant) : List C := [cI a.quantum, cI a.cls, cI a.budget, cI a.used, cI a.wait, cI a.turns, cI a.next, cI a.due, .ar false 0 10 (a.queue.map sJob), .ar false 0 3 (a.out.map sOutcome)]
def zTenant : List C := [cI 0, cI 0, cI 0, cI 0, cI 0, cI 0, cI 0, cI 0, .ar true 133 10 [], .ar true 102 3 []]
@[simp] theorem rTenant_len (a : TTenant) : (rTenant a).length = 10 := rfl
@[simp] theorem sTenant_len (a : TTenant) : (sTenant a).length = 10 := rfl
@[simp] theorem shr_rTenant (a : TTenant) : shrRow (rTenant a) = sTenant a := by simp [rTenant, sTenant]
@[simp] theorem shr_sTenant (a : TTenant) : shrRow (sTenant a) = sTenant a := by simp [sTenant]
@[simp] theorem shrs_rTenant (xs : List TTenant) : shrRows (xs.map rTenant) = xs.map sTenant := shrRows_of shr_rTenant xs
@[simp] theorem shrs_sTenant (xs : List TTenant) : shrRows (xs.map sTenant) = xs.map sTenant := shrRows_of shr_sTenant xs
@[simp] theorem noSh_rTenant (xs : List TTenant) : noShRows (xs.map rTenant) = true := noSh_of (fun a => by simp [rTenant]) xs
def wTenant (a : TTenant) : Nat := wL wJob a.queue + wL wOutcome a.out
def lTenant (a : TTenant) : Prop := lL lJob a.queue ∧ lL lOutcome a.out
def mTenant : Mk TTenant := ⟨fun a k => ⟨k, k + 1, k + 1 + 1, k + 1 + 1 + 1, k + 1 + 1 + 1 + 1, k + 1 + 1 + 1 + 1 + 1, k + 1 + 1 + 1 + 1 + 1 + 1, k + 1 + 1 + 1 + 1 + 1 + 1 + 1, mJob.mkL a.queue (k + 1 + 1 + 1 + 1 + 1 + 1 + 1 + 1), mOutcome.mkL a.out (k + 1 + 1 + 1 + 1 + 1 + 1 + 1 + 1 + mJob.nL a.queue)⟩, fun a => 1 + 1 + 1 + 1 + 1 + 1 + 1 + 1 + mJob.nL a.queue + mOutcome.nL a.out⟩
@[simp] theorem mTenant_wr (a : TTenant) (k : Int) : mTenant.wr a k = ⟨k, k + 1, k + 1 + 1, k + 1 + 1 + 1, k + 1 + 1 + 1 + 1, k + 1 + 1 + 1 + 1 + 1, k + 1 + 1 + 1 + 1 + 1 + 1, k + 1 + 1 + 1 + 1 + 1 + 1 + 1, mJob.mkL a.queue (k + 1 + 1 + 1 + 1 + 1 + 1 + 1 + 1), mOutcome.mkL a.out (k + 1 + 1 + 1 + 1 + 1 + 1 + 1 + 1 + mJob.nL a.queue)⟩ := rfl
@[simp] theorem mTenant_n (a : TTenant) : mTenant.n a = 1 + 1 + 1 + 1 + 1 + 1 + 1 + 1 + mJob.nL a.queue + mOutcome.nL a.out := rfl
end Go.Am
-- inr
namespace Go.Am
open Go.Proofs
set_option maxHeartbeats 4000000
set_option maxRecDepth 100000
attribute [-simp] rErr_len sErr_len shr_rErr shr_sErr shrs_rErr shrs_sErr noSh_rErr mErr_wr mErr_n rSlot_len sSlot_len shr_rSlot shr_sSlot shrs_rSlot shrs_sSlot noSh_rSlot mSlot_wr mSlot_n rNode_len sNode_len shr_rNode shr_sNode shrs_rNode shrs_sNode noSh_rNode mNode_wr mNode_n rTree_len sTree_len shr_rTree shr_sTree shrs_rTree shrs_sTree noSh_rTree mTree_wr mTree_n rRun_len sRun_len shr_rRun shr_sRun shrs_rRun shrs_sRun noSh_rRun mRun_wr mRun_n rJob_len sJob_len shr_rJob shr_sJob shrs_rJob shrs_sJob noSh_rJob mJob_wr mJob_n rOutcome_len sOutcome_len shr_rOutcome shr_sOutcome shrs_rOutcome shrs_sOutcome noSh_rOutcome mOutcome_wr mOutcome_n rTenant_len sTenant_len shr_rTenant shr_sTenant shrs_rTenant shrs_sTenant noSh_rTenant mTenant_wr mTenant_n
def inr (a lo hi : Int) : Bool := decide (lo ≤ a) && decide (a ≤ hi)
theorem inr_iff {a lo hi : Int} : inr a lo hi = true ↔ lo ≤ a ∧ a ≤ hi := by simp [inr]
-- 54 loop.example/g00485/spec.l1In
def k_spec_l1In : K :=
 .seq (
  .reg none [⟨(some 6), none, .asn (.c (.bool false))⟩]) (
 .seq (
  .reg none [⟨(some 7), none, .mv (.t 0)⟩,
    ⟨(some 8), none, .mv (.t 1)⟩,
    ⟨(some 9), none, .bin .geq (.t 7) (.t 8)⟩,
    ⟨(some 10), none, .mv (.t 9)⟩,
    ⟨(some 11), (some (10, true)), .mv (.t 0)⟩,
    ⟨(some 12), (some (10, true)), .mv (.t 2)⟩,
    ⟨(some 13), (some (10, true)), .bin .leq (.t 11) (.t 12)⟩,
    ⟨(some 14), none, .pick (.t 10) (.t 13) (.c (.bool false))⟩,
    ⟨(some 6), none, .asn (.t 14)⟩]) (
 .ret))
def r_spec_l1In : Nat × List RV := (15, [.t 6])

theorem c_spec_l1In : cmpS PT PF PA (Try.prog.funcs[54]?) = some (r_spec_l1In.1, r_spec_l1In.2, stripK k_spec_l1In) := by kernel_rfl

theorem h_spec_l1In (a lo hi : Int) : CallsF Try.prog 54 [aI a, aI lo, aI hi] (aB (inr a lo hi)) := by
  refine Prun c_spec_l1In (by simp [r_spec_l1In]) (by simp) ?_
  unfold k_spec_l1In r_spec_l1In
  by_cases h : lo ≤ a
  · simp [h, inr]
  · simp [h, inr]
-- 93 loop.example/g00485/impl.inRange
def k_impl_inRange : K :=
 .seq (
  .reg none [⟨(some 6), none, .asn (.c (.bool false))⟩]) (
 .seq (
  .reg none [⟨(some 7), none, .mv (.t 0)⟩,
    ⟨(some 8), none, .mv (.t 1)⟩,
    ⟨(some 9), none, .bin .geq (.t 7) (.t 8)⟩,
    ⟨(some 10), none, .mv (.t 9)⟩,
    ⟨(some 11), (some (10, true)), .mv (.t 0)⟩,
    ⟨(some 12), (some (10, true)), .mv (.t 2)⟩,
    ⟨(some 13), (some (10, true)), .bin .leq (.t 11) (.t 12)⟩,
    ⟨(some 14), none, .pick (.t 10) (.t 13) (.c (.bool false))⟩,
    ⟨(some 6), none, .asn (.t 14)⟩]) (
 .ret))
def r_impl_inRange : Nat × List RV := (15, [.t 6])

theorem c_impl_inRange : cmpS PT PF PA (Try.prog.funcs[93]?) = some (r_impl_inRange.1, r_impl_inRange.2, stripK k_impl_inRange) := by kernel_rfl

theorem h_impl_inRange (a lo hi : Int) : CallsF Try.prog 93 [aI a, aI lo, aI hi] (aB (inr a lo hi)) := by
  refine Prun c_impl_inRange (by simp [r_impl_inRange]) (by simp) ?_
  unfold k_impl_inRange r_impl_inRange
  by_cases h : lo ≤ a
  · simp [h, inr]
  · simp [h, inr]
end Go.Am
-- lists
namespace Go.Am
open Go.Proofs
set_option maxHeartbeats 4000000
set_option maxRecDepth 100000
attribute [-simp] rErr_len sErr_len shr_rErr shr_sErr shrs_rErr shrs_sErr noSh_rErr mErr_wr mErr_n rSlot_len sSlot_len shr_rSlot shr_sSlot shrs_rSlot shrs_sSlot noSh_rSlot mSlot_wr mSlot_n rNode_len sNode_len shr_rNode shr_sNode shrs_rNode shrs_sNode noSh_rNode mNode_wr mNode_n rTree_len sTree_len shr_rTree shr_sTree shrs_rTree shrs_sTree noSh_rTree mTree_wr mTree_n rRun_len sRun_len shr_rRun shr_sRun shrs_rRun shrs_sRun noSh_rRun mRun_wr mRun_n rJob_len sJob_len shr_rJob shr_sJob shrs_rJob shrs_sJob noSh_rJob mJob_wr mJob_n rOutcome_len sOutcome_len shr_rOutcome shr_sOutcome shrs_rOutcome shrs_sOutcome noSh_rOutcome mOutcome_wr mOutcome_n rTenant_len sTenant_len shr_rTenant shr_sTenant shrs_rTenant shrs_sTenant noSh_rTenant mTenant_wr mTenant_n
theorem all_step {α : Type} {p : α → Bool} {xs : List α} {i : Nat} (h : i < xs.length) : (xs.take (i + 1)).all p = ((xs.take i).all p && p xs[i]) := by
  rw [List.take_succ_eq_append_getElem h]
  simp only [List.all_append, List.all_cons, List.all_nil, Bool.and_true]
theorem all_ff {α : Type} {p : α → Bool} {xs : List α} {i : Nat} (h : i < xs.length) (hp : p xs[i] = false) : xs.all p = false := by
  cases ha : xs.all p with
  | false => rfl
  | true =>
    have := List.all_eq_true.1 ha xs[i] (List.getElem_mem h)
    rw [hp] at this; cases this
/-- All of the first i. -/
def allTo {α : Type} (p : α → Bool) (xs : List α) (i : Nat) : Bool := (xs.take i).all p
theorem allTo_zero {α : Type} {p : α → Bool} {xs : List α} : allTo p xs 0 = true := by simp [allTo]
theorem allTo_step {α : Type} {p : α → Bool} {xs : List α} {i : Nat} (h : i < xs.length) : allTo p xs (i + 1) = (allTo p xs i && p xs[i]) := all_step h
theorem allTo_all {α : Type} {p : α → Bool} {xs : List α} : allTo p xs xs.length = xs.all p := by rw [allTo, List.take_length]
/-- All below n. -/
def allN (p : Nat → Bool) : Nat → Bool
  | 0 => true
  | n + 1 => allN p n && p n
theorem allN_step {p : Nat → Bool} {n : Nat} : allN p (n + 1) = (allN p n && p n) := rfl
theorem allN_iff {p : Nat → Bool} : ∀ {n : Nat}, allN p n = true ↔ ∀ i, i < n → p i = true
  | 0 => by simp [allN]
  | n + 1 => by
    rw [allN, Bool.and_eq_true, allN_iff (n := n)]
    constructor
    · rintro ⟨h1, h2⟩ i hi
      by_cases h : i = n
      · subst h; exact h2
      · exact h1 i (by omega)
    · intro h; exact ⟨fun i hi => h i (by omega), h n (by omega)⟩
theorem allN_ff {p : Nat → Bool} {n i : Nat} (h : i < n) (hp : p i = false) : allN p n = false := by
  cases ha : allN p n with
  | false => rfl
  | true => have := allN_iff.1 ha i h; rw [hp] at this; cases this
end Go.Am
-- InputOk
namespace Go.Am
open Go.Proofs
set_option maxHeartbeats 4000000
set_option maxRecDepth 100000
attribute [-simp] rErr_len sErr_len shr_rErr shr_sErr shrs_rErr shrs_sErr noSh_rErr mErr_wr mErr_n rSlot_len sSlot_len shr_rSlot shr_sSlot shrs_rSlot shrs_sSlot noSh_rSlot mSlot_wr mSlot_n rNode_len sNode_len shr_rNode shr_sNode shrs_rNode shrs_sNode noSh_rNode mNode_wr mNode_n rTree_len sTree_len shr_rTree shr_sTree shrs_rTree shrs_sTree noSh_rTree mTree_wr mTree_n rRun_len sRun_len shr_rRun shr_sRun shrs_rRun shrs_sRun noSh_rRun mRun_wr mRun_n rJob_len sJob_len shr_rJob shr_sJob shrs_rJob shrs_sJob noSh_rJob mJob_wr mJob_n rOutcome_len sOutcome_len shr_rOutcome shr_sOutcome shrs_rOutcome shrs_sOutcome noSh_rOutcome mOutcome_wr mOutcome_n rTenant_len sTenant_len shr_rTenant shr_sTenant shrs_rTenant shrs_sTenant noSh_rTenant mTenant_wr mTenant_n
def inputOk (w : List Int) : Bool := decide (w.length ≤ 10) && w.all (fun x => inr x 0 25)
-- 76 loop.example/g00485/spec.InputOk
def k_spec_InputOk : K :=
 .seq (
  .reg none [⟨(some 2), none, .asn (.c (.bool false))⟩]) (
 .seq (
  .seq (
   .reg none [⟨(some 4), none, .mv (.t 0)⟩,
     ⟨(some 5), none, .len (.t 4)⟩,
     ⟨(some 6), none, .bin .gtr (.t 5) (.c (.int .i64 (10)))⟩]) (
  .cond (.t 6) (
   .seq (
    .reg none [⟨(some 2), none, .asn (.c (.bool false))⟩]) (
   .ret)) (
   .skip))) (
 .seq (
  .seq (
   .reg none [⟨(some 3), none, .asn (.c (.int .i64 (0)))⟩]) (
  .block 0 (
   .loop (some ([0, 3], [0, 3, 1000])) (
    .seq (
     .seq (
      .reg none [⟨(some 7), none, .mv (.t 3)⟩,
        ⟨(some 8), none, .mv (.t 0)⟩,
        ⟨(some 9), none, .len (.t 8)⟩,
        ⟨(some 10), none, .bin .lss (.t 7) (.t 9)⟩]) (
     .cond (.t 10) (
      .skip) (
      .exit 0))) (
    .seq (
     .block 1 (
      .seq (
       .reg none [⟨(some 13), none, .mv (.t 0)⟩,
         ⟨(some 14), none, .mv (.t 3)⟩,
         ⟨(some 15), none, .iad 1 (.t 13) (.t 14)⟩,
         ⟨(some 16), none, .ld 1 false (.t 15)⟩,
         ⟨(some 17), none, .call 54 [(.t 16), (.c (.int .i64 (0))), (.c (.int .i64 (25)))]⟩,
         ⟨(some 18), none, .not (.t 17)⟩]) (
      .cond (.t 18) (
       .seq (
        .reg none [⟨(some 2), none, .asn (.c (.bool false))⟩]) (
       .ret)) (
       .skip)))) (
    .reg none [⟨(some 11), none, .mv (.t 3)⟩,
      ⟨(some 12), none, .bin .add (.t 11) (.c (.int .i64 (1)))⟩,
      ⟨(some 3), none, .asn (.t 12)⟩])))))) (
 .seq (
  .reg none [⟨(some 2), none, .asn (.c (.bool true))⟩]) (
 .ret))))
def r_spec_InputOk : Nat × List RV := (19, [.t 2])

theorem c_spec_InputOk : cmpS PT PF PA (Try.prog.funcs[76]?) = some (r_spec_InputOk.1, r_spec_InputOk.2, stripK k_spec_InputOk) := by kernel_rfl

theorem h_spec_InputOk (w : List Int) : CallsF Try.prog 76 [.one (.ar false 0 1 (w.map rI))] (aB (inputOk w)) := by
  refine Prun c_spec_InputOk (by simp [r_spec_InputOk]) (by simp) ?_
  unfold k_spec_InputOk r_spec_InputOk
  by_cases g : (10 : Int) < (w.length : Int)
  · have : ¬ w.length ≤ 10 := by omega
    simp [g, inputOk, this]
  have g' : w.length ≤ 10 := by omega
  simp [g]
  refine awp_loop (fun n σ => ∃ i : Nat, i ≤ w.length ∧ n = w.length - i ∧ allTo (fun x => inr x 0 25) w i = true ∧ σ = ⟨[(0, .one (.ar false 0 1 (w.map rI))), (3, aI i)], []⟩) w.length ⟨0, by simp [allTo_zero]⟩ ?_
  rintro n σ ⟨i, hi, rfl, ha, rfl⟩
  by_cases h : i < w.length
  · have hs := allTo_step (p := fun x => inr x 0 25) h
    simp [h]
    refine callG_F (h_spec_l1In _ _ _) (by simp) ?_
    cases c : inr w[i] 0 25
    · have := all_ff (p := fun x => inr x 0 25) h c
      simp [c, inputOk, this]
    · simp [c]
      refine ⟨w.length - (i + 1), by omega, i + 1, by omega, rfl, by rw [hs, ha, c]; rfl, ?_⟩
      rw [wrapI (by omega) (by omega)]
      simp
  · have : i = w.length := by omega
    subst this
    rw [allTo_all] at ha
    simp [inputOk, ha, g']
-- 128 loop.example/g00485/impl.isLetter
def k_impl_isLetter : K :=
 .seq (
  .reg none [⟨(some 2), none, .asn (.c (.bool false))⟩]) (
 .seq (
  .reg none [⟨(some 3), none, .mv (.t 0)⟩,
    ⟨(some 4), none, .call 93 [(.t 3), (.c (.int .i64 (0))), (.c (.int .i64 (25)))]⟩,
    ⟨(some 2), none, .asn (.t 4)⟩]) (
 .ret))
def r_impl_isLetter : Nat × List RV := (5, [.t 2])

theorem c_impl_isLetter : cmpS PT PF PA (Try.prog.funcs[128]?) = some (r_impl_isLetter.1, r_impl_isLetter.2, stripK k_impl_isLetter) := by kernel_rfl

theorem h_isLetter (a : Int) : CallsF Try.prog 128 [aI a] (aB (inr a 0 25)) := by
  refine Prun c_impl_isLetter (by simp [r_impl_isLetter]) (by simp) ?_
  unfold k_impl_isLetter r_impl_isLetter
  simp
  refine callG_F (h_impl_inRange _ _ _) (by simp) ?_
  simp
-- 96 loop.example/g00485/impl.InputOk
def k_impl_InputOk : K :=
 .seq (
  .reg none [⟨(some 2), none, .asn (.c (.bool false))⟩]) (
 .seq (
  .seq (
   .reg none [⟨(some 5), none, .mv (.t 0)⟩,
     ⟨(some 6), none, .len (.t 5)⟩,
     ⟨(some 7), none, .mv (.c (.int .i64 (0)))⟩]) (
  .block 0 (
   .loop (some ([0, 5, 6, 7], [0, 1000])) (
    .seq (
     .reg none [⟨(some 8), none, .bin .lss (.t 7) (.t 6)⟩]) (
    .seq (
     .cond (.t 8) (
      .skip) (
      .exit 0)) (
    .seq (
     .block 1 (
      .seq (
       .reg none [⟨(some 9), none, .iad 1 (.t 5) (.t 7)⟩,
         ⟨(some 10), none, .ld 1 false (.t 9)⟩,
         ⟨(some 4), none, .asn (.t 10)⟩]) (
      .seq (
       .reg none [⟨(some 11), none, .mv (.t 4)⟩,
         ⟨(some 12), none, .call 128 [(.t 11)]⟩,
         ⟨(some 13), none, .not (.t 12)⟩]) (
      .cond (.t 13) (
       .seq (
        .reg none [⟨(some 2), none, .asn (.c (.bool false))⟩]) (
       .ret)) (
       .skip))))) (
    .reg none [⟨(some 14), none, .bin .add (.t 7) (.c (.int .i64 (1)))⟩,
      ⟨(some 7), none, .mv (.t 14)⟩]))))))) (
 .seq (
  .reg none [⟨(some 15), none, .mv (.t 0)⟩,
    ⟨(some 16), none, .len (.t 15)⟩,
    ⟨(some 17), none, .bin .leq (.t 16) (.c (.int .i64 (10)))⟩,
    ⟨(some 2), none, .asn (.t 17)⟩]) (
 .ret)))
def r_impl_InputOk : Nat × List RV := (18, [.t 2])

theorem c_impl_InputOk : cmpS PT PF PA (Try.prog.funcs[96]?) = some (r_impl_InputOk.1, r_impl_InputOk.2, stripK k_impl_InputOk) := by kernel_rfl

theorem h_impl_InputOk (w : List Int) (hw : w.length < 2 ^ 63) : CallsF Try.prog 96 [.one (.ar false 0 1 (w.map rI))] (aB (inputOk w)) := by
  refine Prun c_impl_InputOk (by simp [r_impl_InputOk]) (by simp) ?_
  unfold k_impl_InputOk r_impl_InputOk
  simp
  refine awp_loop (fun n σ => ∃ i : Nat, i ≤ w.length ∧ n = w.length - i ∧ allTo (fun x => inr x 0 25) w i = true ∧ σ = ⟨[(0, .one (.ar false 0 1 (w.map rI))), (5, .one (.ar false 0 1 (w.map rI))), (6, aI w.length), (7, aI i)], []⟩) w.length ⟨0, by simp [allTo_zero]⟩ ?_
  rintro n σ ⟨i, hi, rfl, ha, rfl⟩
  by_cases h : i < w.length
  · have hs := allTo_step (p := fun x => inr x 0 25) h
    simp [h]
    refine callG_F (h_isLetter _) (by simp) ?_
    cases c : inr w[i] 0 25
    · have := all_ff (p := fun x => inr x 0 25) h c
      simp [c, inputOk, this]
    · simp [c]
      refine ⟨w.length - (i + 1), by omega, i + 1, by omega, rfl, by rw [hs, ha, c]; rfl, ?_⟩
      rw [wrapI (by omega) (by omega)]
      simp
  · have : i = w.length := by omega
    subst this
    rw [allTo_all] at ha
    by_cases g : (w.length : Int) ≤ 10
    · have g' : w.length ≤ 10 := by omega
      simp [inputOk, ha, g, g']
    · have g' : ¬ w.length ≤ 10 := by omega
      simp [inputOk, ha, g, g']
end Go.Am
-- codetext
namespace Go.Am
open Go.Proofs
set_option maxHeartbeats 4000000
set_option maxRecDepth 100000
attribute [-simp] rErr_len sErr_len shr_rErr shr_sErr shrs_rErr shrs_sErr noSh_rErr mErr_wr mErr_n rSlot_len sSlot_len shr_rSlot shr_sSlot shrs_rSlot shrs_sSlot noSh_rSlot mSlot_wr mSlot_n rNode_len sNode_len shr_rNode shr_sNode shrs_rNode shrs_sNode noSh_rNode mNode_wr mNode_n rTree_len sTree_len shr_rTree shr_sTree shrs_rTree shrs_sTree noSh_rTree mTree_wr mTree_n rRun_len sRun_len shr_rRun shr_sRun shrs_rRun shrs_sRun noSh_rRun mRun_wr mRun_n rJob_len sJob_len shr_rJob shr_sJob shrs_rJob shrs_sJob noSh_rJob mJob_wr mJob_n rOutcome_len sOutcome_len shr_rOutcome shr_sOutcome shrs_rOutcome shrs_sOutcome noSh_rOutcome mOutcome_wr mOutcome_n rTenant_len sTenant_len shr_rTenant shr_sTenant shrs_rTenant shrs_sTenant noSh_rTenant mTenant_wr mTenant_n
def codeTexts : List ByteArray := [⟨#[100, 111, 110, 101]⟩, ⟨#[109, 117, 99, 104]⟩, ⟨#[105, 110, 112, 117, 116]⟩, ⟨#[103, 114, 97, 109]⟩, ⟨#[102, 117, 108, 108]⟩, ⟨#[99, 97, 110, 99, 101, 108]⟩, ⟨#[98, 117, 100, 103, 101, 116]⟩]
def codeText (k : Int) : ByteArray := if inr k 0 6 then codeTexts.getD k.toNat ⟨#[]⟩ else ⟨#[]⟩
theorem seven {a : Int} (h : inr a 0 6 = true) : a = 0 ∨ a = 1 ∨ a = 2 ∨ a = 3 ∨ a = 4 ∨ a = 5 ∨ a = 6 := by
  simp [inr] at h; omega
theorem wrap6 : IntKind.i64.wrap 6 = 6 := by decide
-- 88 loop.example/g00485/spec.CodeText
def k_spec_CodeText : K :=
 .seq (
  .reg none [⟨(some 2), none, .asn (.c (.str ⟨#[]⟩))⟩]) (
 .seq (
  .reg none [⟨(some 4), none, .bls 9 1 false [(.c (.str ⟨#[100, 111, 110, 101]⟩)), (.c (.str ⟨#[109, 117, 99, 104]⟩)), (.c (.str ⟨#[105, 110, 112, 117, 116]⟩)), (.c (.str ⟨#[103, 114, 97, 109]⟩)), (.c (.str ⟨#[102, 117, 108, 108]⟩)), (.c (.str ⟨#[99, 97, 110, 99, 101, 108]⟩)), (.c (.str ⟨#[98, 117, 100, 103, 101, 116]⟩))]⟩,
    ⟨(some 3), none, .asn (.t 4)⟩]) (
 .seq (
  .seq (
   .reg none [⟨(some 5), none, .mv (.t 0)⟩,
     ⟨(some 6), none, .mv (.t 3)⟩,
     ⟨(some 7), none, .len (.t 6)⟩,
     ⟨(some 8), none, .bin .sub (.t 7) (.c (.int .i64 (1)))⟩,
     ⟨(some 9), none, .call 54 [(.t 5), (.c (.int .i64 (0))), (.t 8)]⟩,
     ⟨(some 10), none, .not (.t 9)⟩]) (
  .cond (.t 10) (
   .seq (
    .reg none [⟨(some 2), none, .asn (.c (.str ⟨#[]⟩))⟩]) (
   .ret)) (
   .skip))) (
 .seq (
  .reg none [⟨(some 11), none, .mv (.t 3)⟩,
    ⟨(some 12), none, .mv (.t 0)⟩,
    ⟨(some 13), none, .iad 1 (.t 11) (.t 12)⟩,
    ⟨(some 14), none, .ld 1 false (.t 13)⟩,
    ⟨(some 2), none, .asn (.t 14)⟩]) (
 .ret))))
def r_spec_CodeText : Nat × List RV := (15, [.t 2])

theorem c_spec_CodeText : cmpS PT PF PA (Try.prog.funcs[88]?) = some (r_spec_CodeText.1, r_spec_CodeText.2, stripK k_spec_CodeText) := by kernel_rfl

theorem h_spec_CodeText (a : Int) : CallsF Try.prog 88 [aI a] (aS (codeText a)) := by
  refine Prun c_spec_CodeText (by simp [r_spec_CodeText]) (by simp) ?_
  unfold k_spec_CodeText r_spec_CodeText
  simp
  refine callG_F (h_spec_l1In _ _ _) (by simp) ?_
  rw [wrap6]
  by_cases h : inr a 0 6 = true
  · rcases seven h with rfl | rfl | rfl | rfl | rfl | rfl | rfl <;> simp [h, codeText, codeTexts, viewCs, viewC]
  · simp [h, codeText]
-- 90 loop.example/g00485/impl.CodeText
def k_impl_CodeText : K :=
 .seq (
  .reg none [⟨(some 2), none, .asn (.c (.str ⟨#[]⟩))⟩]) (
 .seq (
  .seq (
   .reg none [⟨(some 3), none, .mv (.t 0)⟩,
     ⟨(some 4), none, .call 93 [(.t 3), (.c (.int .i64 (0))), (.c (.int .i64 (6)))]⟩,
     ⟨(some 5), none, .not (.t 4)⟩]) (
  .cond (.t 5) (
   .seq (
    .reg none [⟨(some 2), none, .asn (.c (.str ⟨#[]⟩))⟩]) (
   .ret)) (
   .skip))) (
 .seq (
  .reg none [⟨(some 6), none, .bld false [(.str ⟨#[]⟩), (.str ⟨#[]⟩), (.str ⟨#[]⟩), (.str ⟨#[]⟩), (.str ⟨#[]⟩), (.str ⟨#[]⟩), (.str ⟨#[]⟩)] [(0, 1, (.c (.str ⟨#[100, 111, 110, 101]⟩))), (1, 1, (.c (.str ⟨#[109, 117, 99, 104]⟩))), (2, 1, (.c (.str ⟨#[105, 110, 112, 117, 116]⟩))), (3, 1, (.c (.str ⟨#[103, 114, 97, 109]⟩))), (4, 1, (.c (.str ⟨#[102, 117, 108, 108]⟩))), (5, 1, (.c (.str ⟨#[99, 97, 110, 99, 101, 108]⟩))), (6, 1, (.c (.str ⟨#[98, 117, 100, 103, 101, 116]⟩)))]⟩,
    ⟨(some 7), none, .mv (.t 0)⟩,
    ⟨(some 8), none, .idxa 7 1 false (.t 6) (.t 7)⟩,
    ⟨(some 2), none, .asn (.t 8)⟩]) (
 .ret)))
def r_impl_CodeText : Nat × List RV := (9, [.t 2])

theorem c_impl_CodeText : cmpS PT PF PA (Try.prog.funcs[90]?) = some (r_impl_CodeText.1, r_impl_CodeText.2, stripK k_impl_CodeText) := by kernel_rfl

theorem h_impl_CodeText (a : Int) : CallsF Try.prog 90 [aI a] (aS (codeText a)) := by
  refine Prun c_impl_CodeText (by simp [r_impl_CodeText]) (by simp) ?_
  unfold k_impl_CodeText r_impl_CodeText
  simp
  refine callG_F (h_impl_inRange _ _ _) (by simp) ?_
  by_cases h : inr a 0 6 = true
  · rcases seven h with rfl | rfl | rfl | rfl | rfl | rfl | rfl <;> simp [h, codeText, codeTexts, viewCs, viewC]
  · simp [h, codeText]
theorem codeText_nil (a : Int) : decide (codeText a = ⟨#[]⟩) = !inr a 0 6 := by
  cases h : inr a 0 6
  · simp [codeText, h]
  · rcases seven h with rfl | rfl | rfl | rfl | rfl | rfl | rfl <;> simp [codeText, h, codeTexts]
theorem codeText_no {a : Int} (h : inr a 0 6 = false) : codeText a = ⟨#[]⟩ := by simp [codeText, h]
theorem codeText_ne {a : Int} (h : inr a 0 6 = true) : (codeText a).toList.isEmpty = false := by
  rcases seven h with rfl | rfl | rfl | rfl | rfl | rfl | rfl <;> simp [codeText, h, codeTexts] <;> decide
end Go.Am
-- tenantok
namespace Go.Am
open Go.Proofs
set_option maxHeartbeats 4000000
set_option maxRecDepth 100000
def srtAt (l : List Int) (i : Nat) : Bool := decide (i = 0) || decide (l.getD (i - 1) 0 < l.getD i 0)
def qT (t : TTenant) : List Int := t.queue.map TJob.ticket
def oT (t : TTenant) : List Int := t.out.map TOutcome.ticket
def jobOk (j : TJob) : Bool := inputOk j.input && inr j.gram 0 3 && decide (j.run.code = 0)
def hdQ (t : TTenant) : Bool := inr t.quantum 1 20 && inr t.cls 0 2 && inr t.budget 0 5000 && inr t.used 0 t.budget
def hdC (t : TTenant) : Bool := inr t.wait 0 1000000 && inr t.turns 0 1000000 && inr t.due 0 1000000 && inr t.next 0 1000000 && inr (t.next - t.due) 0 6
def hasT (t : TTenant) (k : Int) : Nat := (qT t).count k + (oT t).count k
def p1T (t : TTenant) (k : Nat) : Bool := decide (hasT t (t.due + k) = 1)
def p2T (t : TTenant) (i : Nat) : Bool := srtAt (qT t) i && jobOk (t.queue.getD i default)
def p3T (t : TTenant) (i : Nat) : Bool := srtAt (oT t) i && inr (t.out.getD i default).code 0 6
def p4T (t : TTenant) (k : Nat) : Bool := decide (t.due + (k : Int) ∈ qT t ++ oT t)
/-- As the reference has it. -/
def tenantOkS (t : TTenant) : Bool :=
  hdQ t && hdC t && !(decide (0 < t.wait) && decide (t.queue.length = 0)) && decide (t.queue.length ≤ 4) && decide ((t.queue.length : Int) + t.out.length = t.next - t.due) &&
  allN (p1T t) (t.next - t.due).toNat && allN (p2T t) t.queue.length && allN (p3T t) t.out.length
/-- As the program has it. -/
def ticketsOk (t : TTenant) : Bool :=
  decide ((t.queue.length : Int) + t.out.length = t.next - t.due) && allN (srtAt (qT t)) t.queue.length &&
  allN (fun i => srtAt (oT t) i && inr (t.out.getD i default).code 0 6) t.out.length &&
  allN (fun k => decide (t.due + (k : Int) ∈ qT t ++ oT t)) (t.next - t.due).toNat
def tenantOk (t : TTenant) : Bool :=
  hdQ t && hdC t && !(decide (t.queue.length = 0) && decide (t.wait ≠ 0)) && decide (t.queue.length ≤ 4) && ticketsOk t && t.queue.all jobOk
/-- In how many places numbers from d on stand. -/
def cntF (l : List Int) (d : Int) : Nat → Nat
  | 0 => 0
  | n + 1 => cntF l d n + l.count (d + n)
theorem cntF_nil (d : Int) : ∀ n, cntF [] d n = 0
  | 0 => rfl
  | n + 1 => by simp [cntF, cntF_nil d n]
theorem cntF_cons (x : Int) (l : List Int) (d : Int) : ∀ n : Nat, cntF (x :: l) d n = cntF l d n + (if d ≤ x ∧ x < d + n then 1 else 0)
  | 0 => by
    have : ¬ (d ≤ x ∧ x < d + ((0 : Nat) : Int)) := by omega
    simp only [cntF, if_neg this]
  | n + 1 => by
    simp only [cntF, cntF_cons x l d n, List.count_cons]
    by_cases h1 : x = d + n
    · have h2 : ¬ (d ≤ x ∧ x < d + (n : Int)) := by omega
      have h3 : d ≤ x ∧ x < d + ((n + 1 : Nat) : Int) := by omega
      simp only [if_neg h2, if_pos h3]
      simp [h1]; omega
    · have h4 : (x == d + (n : Int)) = false := by simpa using h1
      rw [h4]
      by_cases h2 : d ≤ x ∧ x < d + (n : Int)
      · have h3 : d ≤ x ∧ x < d + ((n + 1 : Nat) : Int) := by omega
        simp only [if_pos h2, if_pos h3]; simp; omega
      · have h3 : ¬ (d ≤ x ∧ x < d + ((n + 1 : Nat) : Int)) := by omega
        simp only [if_neg h2, if_neg h3]; simp
theorem cntF_le (d : Int) (n : Nat) : ∀ l : List Int, cntF l d n ≤ l.length
  | [] => by rw [cntF_nil]; exact Nat.zero_le _
  | x :: l => by
    rw [cntF_cons, List.length_cons]
    have := cntF_le d n l
    split <;> omega
theorem cntF_ge (l : List Int) (d : Int) : ∀ n : Nat, (∀ k : Nat, k < n → 1 ≤ l.count (d + k)) → n ≤ cntF l d n ∧ ∀ k : Nat, k < n → n + (l.count (d + k) - 1) ≤ cntF l d n
  | 0, _ => ⟨Nat.zero_le _, fun k hk => by omega⟩
  | n + 1, h => by
    obtain ⟨h1, h2⟩ := cntF_ge l d n (fun k hk => h k (by omega))
    have h3 := h n (by omega)
    refine ⟨by simp only [cntF]; omega, fun k hk => ?_⟩
    simp only [cntF]
    by_cases hk2 : k = n
    · subst hk2; omega
    · have := h2 k (by omega); omega
theorem count_one {l : List Int} {d : Int} {n : Nat} (hn : l.length = n) : (∀ k : Nat, k < n → l.count (d + k) = 1) ↔ ∀ k : Nat, k < n → d + (k : Int) ∈ l := by
  constructor
  · intro h k hk
    exact List.count_pos_iff.1 (by rw [h k hk]; exact Nat.one_pos)
  · intro h k hk
    have h1 : ∀ k : Nat, k < n → 1 ≤ l.count (d + k) := fun k hk => List.count_pos_iff.2 (h k hk)
    have h2 := (cntF_ge l d n h1).2 k hk
    have h3 := cntF_le d n l
    have h4 := h1 k hk
    omega
theorem all_allN {α : Type} [Inhabited α] (p : α → Bool) (xs : List α) : xs.all p = allN (fun i => p (xs.getD i default)) xs.length := by
  rw [Bool.eq_iff_iff, allN_iff, List.all_eq_true]
  constructor
  · intro h i hi
    have : xs.getD i default = xs[i] := by simp [List.getD, hi]
    rw [this]; exact h _ (List.getElem_mem hi)
  · intro h x hx
    obtain ⟨i, hi, rfl⟩ := List.mem_iff_getElem.1 hx
    have : xs.getD i default = xs[i] := by simp [List.getD, hi]
    rw [← this]; exact h i hi
theorem allN_and (p q : Nat → Bool) : ∀ n, allN (fun i => p i && q i) n = (allN p n && allN q n)
  | 0 => rfl
  | n + 1 => by
    simp only [allN, allN_and p q n]
    cases allN p n <;> cases allN q n <;> cases p n <;> cases q n <;> rfl
theorem tenantOk_eq (t : TTenant) : tenantOkS t = tenantOk t := by
  have e1 : p1T t = fun k : Nat => decide (hasT t (t.due + k) = 1) := rfl
  have e2 : p2T t = fun i => srtAt (qT t) i && jobOk (t.queue.getD i default) := rfl
  have e3 : p3T t = fun i => srtAt (oT t) i && inr (t.out.getD i default).code 0 6 := rfl
  unfold tenantOkS tenantOk ticketsOk
  rw [e1, e2, e3]
  by_cases hd : hdQ t = true
  case neg => simp [Bool.eq_false_iff.2 hd]
  by_cases hc : hdC t = true
  case neg => simp [Bool.eq_false_iff.2 hc]
  rw [hd, hc]
  have hw : (decide (0 < t.wait) && decide (t.queue.length = 0)) = (decide (t.queue.length = 0) && decide (t.wait ≠ 0)) := by
    simp [hdC, inr] at hc
    rw [Bool.and_comm]; congr 1; rw [decide_eq_decide]; omega
  rw [hw, all_allN jobOk]
  simp only [allN_and]
  by_cases hl : (t.queue.length : Int) + t.out.length = t.next - t.due
  case neg => simp [hl]
  have hk : allN (fun k => decide (hasT t (t.due + k) = 1)) (t.next - t.due).toNat = allN (fun k => decide (t.due + (k : Int) ∈ qT t ++ oT t)) (t.next - t.due).toNat := by
    rw [Bool.eq_iff_iff, allN_iff, allN_iff]
    have := count_one (l := qT t ++ oT t) (d := t.due) (n := (t.next - t.due).toNat) (by simp [qT, oT]; omega)
    simp only [List.count_append] at this
    constructor
    · intro h k hk
      exact decide_eq_true (this.1 (fun k hk => of_decide_eq_true (h k hk)) k hk)
    · intro h k hk
      exact decide_eq_true (this.2 (fun k hk => of_decide_eq_true (h k hk)) k hk)
  rw [hk]
  simp only [hl, decide_true, Bool.true_and]
  cases allN (fun k => decide (t.due + (k : Int) ∈ qT t ++ oT t)) (t.next - t.due).toNat <;> cases allN (srtAt (qT t)) t.queue.length <;> cases allN (fun i => jobOk (t.queue.getD i default)) t.queue.length <;> cases allN (srtAt (oT t)) t.out.length <;> cases allN (fun i => inr (t.out.getD i default).code 0 6) t.out.length <;> simp
end Go.Am
-- Contains
namespace Go.Am
open Go.Proofs
set_option maxHeartbeats 4000000
set_option maxRecDepth 100000
attribute [-simp] rErr_len sErr_len shr_rErr shr_sErr shrs_rErr shrs_sErr noSh_rErr mErr_wr mErr_n rSlot_len sSlot_len shr_rSlot shr_sSlot shrs_rSlot shrs_sSlot noSh_rSlot mSlot_wr mSlot_n rNode_len sNode_len shr_rNode shr_sNode shrs_rNode shrs_sNode noSh_rNode mNode_wr mNode_n rTree_len sTree_len shr_rTree shr_sTree shrs_rTree shrs_sTree noSh_rTree mTree_wr mTree_n rRun_len sRun_len shr_rRun shr_sRun shrs_rRun shrs_sRun noSh_rRun mRun_wr mRun_n rJob_len sJob_len shr_rJob shr_sJob shrs_rJob shrs_sJob noSh_rJob mJob_wr mJob_n rOutcome_len sOutcome_len shr_rOutcome shr_sOutcome shrs_rOutcome shrs_sOutcome noSh_rOutcome mOutcome_wr mOutcome_n rTenant_len sTenant_len shr_rTenant shr_sTenant shrs_rTenant shrs_sTenant noSh_rTenant mTenant_wr mTenant_n
def indexOf (xs : List Int) (x : Int) : Int := match xs.idxOf? x with
  | some i => i
  | none => -1
-- 169 slices.Index[[]int,int]
def k_slices_Index_int_int : K :=
 .seq (
  .reg none [⟨(some 4), none, .asn (.c (.int .i64 (0)))⟩]) (
 .seq (
  .seq (
   .reg none [⟨(some 6), none, .mv (.t 0)⟩,
     ⟨(some 7), none, .len (.t 6)⟩,
     ⟨(some 8), none, .mv (.c (.int .i64 (0)))⟩]) (
  .block 0 (
   .loop (some ([0, 1, 7, 8], [0, 1, 1000])) (
    .seq (
     .reg none [⟨(some 9), none, .bin .lss (.t 8) (.t 7)⟩]) (
    .seq (
     .cond (.t 9) (
      .skip) (
      .exit 0)) (
    .seq (
     .block 1 (
      .seq (
       .reg none [⟨(some 10), none, .mv (.t 8)⟩,
         ⟨(some 5), none, .asn (.t 10)⟩]) (
      .seq (
       .reg none [⟨(some 11), none, .mv (.t 1)⟩,
         ⟨(some 12), none, .mv (.t 0)⟩,
         ⟨(some 13), none, .mv (.t 5)⟩,
         ⟨(some 14), none, .iad 1 (.t 12) (.t 13)⟩,
         ⟨(some 15), none, .ld 1 false (.t 14)⟩,
         ⟨(some 16), none, .bin .eql (.t 11) (.t 15)⟩]) (
      .cond (.t 16) (
       .seq (
        .reg none [⟨(some 17), none, .mv (.t 5)⟩,
          ⟨(some 4), none, .asn (.t 17)⟩]) (
       .ret)) (
       .skip))))) (
    .reg none [⟨(some 18), none, .bin .add (.t 8) (.c (.int .i64 (1)))⟩,
      ⟨(some 8), none, .mv (.t 18)⟩]))))))) (
 .seq (
  .reg none [⟨(some 4), none, .asn (.c (.int .i64 (-1)))⟩]) (
 .ret)))
def r_slices_Index_int_int : Nat × List RV := (19, [.t 4])

theorem c_slices_Index_int_int : cmpS PT PF PA (Try.prog.funcs[169]?) = some (r_slices_Index_int_int.1, r_slices_Index_int_int.2, stripK k_slices_Index_int_int) := by kernel_rfl

theorem h_slicesIndex (xs : List Int) (x : Int) (hx : xs.length < 2 ^ 63) : CallsF Try.prog 169 [.one (.ar false 0 1 (xs.map rI)), aI x] (aI (indexOf xs x)) := by
  refine Prun c_slices_Index_int_int (by simp [r_slices_Index_int_int]) (by simp) ?_
  unfold k_slices_Index_int_int r_slices_Index_int_int
  simp
  refine awp_loop (fun n σ => ∃ i : Nat, i ≤ xs.length ∧ n = xs.length - i ∧ x ∉ xs.take i ∧ σ = ⟨[(0, .one (.ar false 0 1 (xs.map rI))), (1, aI x), (7, aI xs.length), (8, aI i)], []⟩) xs.length ⟨0, by simp⟩ ?_
  rintro n σ ⟨i, hi, rfl, ha, rfl⟩
  by_cases h : i < xs.length
  · by_cases c : x = xs[i]
    · have : indexOf xs x = i := by
        have : xs.idxOf? x = some i := by
          rw [List.idxOf?, List.findIdx?_eq_some_iff_getElem]
          refine ⟨h, by simp [c], fun j hj => ?_⟩
          simp only [beq_iff_eq, Bool.not_eq_true, beq_eq_false_iff_ne, ne_eq]
          intro he
          exact ha (by rw [← he]; exact List.mem_take_iff_getElem.2 ⟨j, by omega, rfl⟩)
        rw [indexOf, this]
      simp [h, ← c, this]
    · simp [h, c]
      refine ⟨xs.length - (i + 1), by omega, i + 1, by omega, rfl, ?_, ?_⟩
      · rw [List.take_succ_eq_append_getElem h]
        intro hm
        rcases List.mem_append.1 hm with hm | hm
        · exact ha hm
        · exact c (List.mem_singleton.1 hm)
      · rw [wrapI (by omega) (by omega)]
        simp
  · have : i = xs.length := by omega
    subst this
    rw [List.take_length] at ha
    have : indexOf xs x = -1 := by
      have : xs.idxOf? x = none := by
        rw [List.idxOf?_eq_none_iff]; exact ha
      rw [indexOf, this]
    simp [this]
-- 142 slices.Contains[[]int,int]
def k_slices_Contains_int_int : K :=
 .seq (
  .reg none [⟨(some 4), none, .asn (.c (.bool false))⟩]) (
 .seq (
  .reg none [⟨(some 5), none, .mv (.t 0)⟩,
    ⟨(some 6), none, .mv (.t 1)⟩,
    ⟨(some 7), none, .call 169 [(.t 5), (.t 6)]⟩,
    ⟨(some 8), none, .bin .geq (.t 7) (.c (.int .i64 (0)))⟩,
    ⟨(some 4), none, .asn (.t 8)⟩]) (
 .ret))
def r_slices_Contains_int_int : Nat × List RV := (9, [.t 4])

theorem c_slices_Contains_int_int : cmpS PT PF PA (Try.prog.funcs[142]?) = some (r_slices_Contains_int_int.1, r_slices_Contains_int_int.2, stripK k_slices_Contains_int_int) := by kernel_rfl

theorem h_slicesContains (xs : List Int) (x : Int) (hx : xs.length < 2 ^ 63) : CallsF Try.prog 142 [.one (.ar false 0 1 (xs.map rI)), aI x] (aB (decide (x ∈ xs))) := by
  refine Prun c_slices_Contains_int_int (by simp [r_slices_Contains_int_int]) (by simp) ?_
  unfold k_slices_Contains_int_int r_slices_Contains_int_int
  simp
  refine callG_F (h_slicesIndex _ _ hx) (by simp) ?_
  have : (0 ≤ indexOf xs x) ↔ x ∈ xs := by
    unfold indexOf
    split
    · rename_i i h
      have := List.isSome_idxOf? (l := xs) (a := x)
      rw [h] at this
      simp at this
      constructor
      · intro; exact this
      · intro; omega
    · rename_i h
      rw [List.idxOf?_eq_none_iff] at h
      constructor
      · intro; omega
      · intro h2; exact absurd h2 h
  simp [this]
end Go.Am
-- TenantOk
namespace Go.Am
open Go.Proofs
set_option maxHeartbeats 4000000
set_option maxRecDepth 100000
-- 141 loop.example/g00485/spec.l1Bit
def k_spec_l1Bit : K :=
 .seq (
  .reg none [⟨(some 2), none, .asn (.c (.int .i64 (0)))⟩]) (
 .seq (
  .seq (
   .reg none [⟨(some 3), none, .mv (.t 0)⟩]) (
  .cond (.t 3) (
   .seq (
    .reg none [⟨(some 2), none, .asn (.c (.int .i64 (1)))⟩]) (
   .ret)) (
   .skip))) (
 .seq (
  .reg none [⟨(some 2), none, .asn (.c (.int .i64 (0)))⟩]) (
 .ret)))
def r_spec_l1Bit : Nat × List RV := (4, [.t 2])

theorem c_spec_l1Bit : cmpS PT PF PA (Try.prog.funcs[141]?) = some (r_spec_l1Bit.1, r_spec_l1Bit.2, stripK k_spec_l1Bit) := by kernel_rfl

theorem h_l1Bit (b : Bool) : CallsF Try.prog 141 [aB b] (aI (if b then 1 else 0)) := by
  refine Prun c_spec_l1Bit (by simp [r_spec_l1Bit]) (by simp) ?_
  unfold k_spec_l1Bit r_spec_l1Bit
  cases b <;> simp
theorem cnt_step {α : Type} (f : α → Int) (xs : List α) (k : Int) (i : Nat) (h : i < xs.length) : ((xs.map f).take (i + 1)).count k = ((xs.map f).take i).count k + (if f xs[i] = k then 1 else 0) := by
  rw [List.take_succ_eq_append_getElem (by simpa using h), List.count_append]
  simp [List.count_cons]
-- 92 loop.example/g00485/spec.l14Has
def k_spec_l14Has : K :=
 .seq (
  .reg none [⟨(some 2), none, .box 25 10 (.t 0)⟩,
    ⟨(some 4), none, .asn (.c (.int .i64 (0)))⟩]) (
 .seq (
  .reg none [⟨(some 5), none, .asn (.c (.int .i64 (0)))⟩]) (
 .seq (
  .seq (
   .reg none [⟨(some 6), none, .asn (.c (.int .i64 (0)))⟩]) (
  .block 0 (
   .loop (some ([1, 2, 5, 6], [1, 2, 5, 6, 1000])) (
    .seq (
     .seq (
      .reg none [⟨(some 8), none, .mv (.t 6)⟩,
        ⟨(some 9), none, .fad 8 (.t 2)⟩,
        ⟨(some 10), none, .ld 1 false (.t 9)⟩,
        ⟨(some 11), none, .len (.t 10)⟩,
        ⟨(some 12), none, .bin .lss (.t 8) (.t 11)⟩]) (
     .cond (.t 12) (
      .skip) (
      .exit 0))) (
    .seq (
     .block 1 (
      .reg none [⟨(some 15), none, .mv (.t 5)⟩,
        ⟨(some 16), none, .fad 8 (.t 2)⟩,
        ⟨(some 17), none, .ld 1 false (.t 16)⟩,
        ⟨(some 18), none, .mv (.t 6)⟩,
        ⟨(some 19), none, .iad 10 (.t 17) (.t 18)⟩,
        ⟨(some 20), none, .fad 0 (.t 19)⟩,
        ⟨(some 21), none, .ld 1 false (.t 20)⟩,
        ⟨(some 22), none, .mv (.t 1)⟩,
        ⟨(some 23), none, .bin .eql (.t 21) (.t 22)⟩,
        ⟨(some 24), none, .call 141 [(.t 23)]⟩,
        ⟨(some 25), none, .bin .add (.t 15) (.t 24)⟩,
        ⟨(some 5), none, .asn (.t 25)⟩])) (
    .reg none [⟨(some 13), none, .mv (.t 6)⟩,
      ⟨(some 14), none, .bin .add (.t 13) (.c (.int .i64 (1)))⟩,
      ⟨(some 6), none, .asn (.t 14)⟩])))))) (
 .seq (
  .seq (
   .reg none [⟨(some 7), none, .asn (.c (.int .i64 (0)))⟩]) (
  .block 2 (
   .loop (some ([1, 2, 5, 7], [1, 2, 5, 7, 1000])) (
    .seq (
     .seq (
      .reg none [⟨(some 26), none, .mv (.t 7)⟩,
        ⟨(some 27), none, .fad 9 (.t 2)⟩,
        ⟨(some 28), none, .ld 1 false (.t 27)⟩,
        ⟨(some 29), none, .len (.t 28)⟩,
        ⟨(some 30), none, .bin .lss (.t 26) (.t 29)⟩]) (
     .cond (.t 30) (
      .skip) (
      .exit 2))) (
    .seq (
     .block 3 (
      .reg none [⟨(some 33), none, .mv (.t 5)⟩,
        ⟨(some 34), none, .fad 9 (.t 2)⟩,
        ⟨(some 35), none, .ld 1 false (.t 34)⟩,
        ⟨(some 36), none, .mv (.t 7)⟩,
        ⟨(some 37), none, .iad 3 (.t 35) (.t 36)⟩,
        ⟨(some 38), none, .fad 0 (.t 37)⟩,
        ⟨(some 39), none, .ld 1 false (.t 38)⟩,
        ⟨(some 40), none, .mv (.t 1)⟩,
        ⟨(some 41), none, .bin .eql (.t 39) (.t 40)⟩,
        ⟨(some 42), none, .call 141 [(.t 41)]⟩,
        ⟨(some 43), none, .bin .add (.t 33) (.t 42)⟩,
        ⟨(some 5), none, .asn (.t 43)⟩])) (
    .reg none [⟨(some 31), none, .mv (.t 7)⟩,
      ⟨(some 32), none, .bin .add (.t 31) (.c (.int .i64 (1)))⟩,
      ⟨(some 7), none, .asn (.t 32)⟩])))))) (
 .seq (
  .reg none [⟨(some 44), none, .mv (.t 5)⟩,
    ⟨(some 4), none, .asn (.t 44)⟩]) (
 .ret)))))
def r_spec_l14Has : Nat × List RV := (45, [.t 4])

theorem c_spec_l14Has : cmpS PT PF PA (Try.prog.funcs[92]?) = some (r_spec_l14Has.1, r_spec_l14Has.2, stripK k_spec_l14Has) := by kernel_rfl

theorem h_l14Has (t : TTenant) (k : Int) (hq : t.queue.length ≤ 4) (ho : t.out.length ≤ 100) : CallsF Try.prog 92 [.agg (sTenant t), aI k] (aI (hasT t k)) := by
  refine Prun c_spec_l14Has (by simp [r_spec_l14Has]) (by simp) ?_
  unfold k_spec_l14Has r_spec_l14Has
  have wr : ∀ (a b : Nat), a ≤ 4 → b ≤ 100 → IntKind.i64.wrap ((a : Int) + b) = (a : Int) + b := fun a b h1 h2 => wrapI (by omega) (by omega)
  simp [sTenant]
  refine awp_loop (fun n σ => ∃ i : Nat, i ≤ t.queue.length ∧ n = t.queue.length - i ∧ σ = ⟨[(1, aI k), (2, .one (.pt 10 2 [] 0 0)), (5, aI (((qT t).take i).count k)), (6, aI i)], [(2, ⟨25, 10, [sTenant t]⟩)]⟩) t.queue.length ⟨0, by simp [sTenant]⟩ ?_
  rintro n σ ⟨i, hi, rfl, rfl⟩
  by_cases h : i < t.queue.length
  · have hc := cnt_step TJob.ticket t.queue k i h
    rw [show t.queue.map TJob.ticket = qT t from rfl] at hc
    have hb : ((qT t).take i).count k ≤ i := Nat.le_trans List.count_le_length (by simp; omega)
    generalize ((qT t).take i).count k = n0 at *
    have w1 : IntKind.i64.wrap ((i : Int) + 1) = i + 1 := wrapI (by omega) (by omega)
    have w2 : IntKind.i64.wrap ((n0 : Int) + 1) = n0 + 1 := wrapI (by omega) (by omega)
    have w3 : IntKind.i64.wrap (n0 : Int) = n0 := wrapI (by omega) (by omega)
    simp [sTenant, h, sJob]
    refine callG_F (h_l1Bit _) (by simp) ?_
    by_cases c : t.queue[i].ticket = k
    · simp [c, w1, w2]
      refine ⟨t.queue.length - (i + 1), by omega, i + 1, by omega, rfl, ?_⟩
      simp [hc, c, sTenant]
    · simp [c, w1, w3]
      refine ⟨t.queue.length - (i + 1), by omega, i + 1, by omega, rfl, ?_⟩
      simp [hc, c, sTenant]
  have : i = t.queue.length := by omega
  subst this
  have e0 : (qT t).take t.queue.length = qT t := List.take_of_length_le (by simp [qT])
  have hb0 : (qT t).count k ≤ 4 := Nat.le_trans List.count_le_length (by simp [qT]; omega)
  rw [e0]
  simp [sTenant]
  refine awp_loop (fun n σ => ∃ i : Nat, i ≤ t.out.length ∧ n = t.out.length - i ∧ σ = ⟨[(1, aI k), (2, .one (.pt 10 2 [] 0 0)), (5, aI ((qT t).count k + ((oT t).take i).count k : Nat)), (7, aI i)], [(2, ⟨25, 10, [sTenant t]⟩)]⟩) t.out.length ⟨0, by simp [sTenant]⟩ ?_
  rintro n σ ⟨i, hi, rfl, rfl⟩
  by_cases h : i < t.out.length
  · have hc := cnt_step TOutcome.ticket t.out k i h
    rw [show t.out.map TOutcome.ticket = oT t from rfl] at hc
    have hb : ((oT t).take i).count k ≤ i := Nat.le_trans List.count_le_length (by simp; omega)
    generalize ((oT t).take i).count k = n1 at *
    generalize (qT t).count k = n0 at *
    have w1 : IntKind.i64.wrap ((i : Int) + 1) = i + 1 := wrapI (by omega) (by omega)
    have w2 : IntKind.i64.wrap ((n0 : Int) + n1 + 1) = n0 + n1 + 1 := wrapI (by omega) (by omega)
    have w3 : IntKind.i64.wrap ((n0 : Int) + n1) = n0 + n1 := wrapI (by omega) (by omega)
    simp [sTenant, h, sOutcome]
    refine callG_F (h_l1Bit _) (by simp) ?_
    by_cases c : t.out[i].ticket = k
    · simp [c, w1, w2]
      refine ⟨t.out.length - (i + 1), by omega, i + 1, by omega, rfl, ?_⟩
      simp [hc, c, sTenant]; omega
    · simp [c, w1, w3]
      refine ⟨t.out.length - (i + 1), by omega, i + 1, by omega, rfl, ?_⟩
      simp [hc, c, sTenant]
  have : i = t.out.length := by omega
  subst this
  have e0 : (oT t).take t.out.length = oT t := List.take_of_length_le (by simp [oT])
  rw [e0]
  simp [sTenant, hasT]
end Go.Am
-- TenantOkS
namespace Go.Am
open Go.Proofs
set_option maxHeartbeats 4000000
set_option maxRecDepth 100000
-- 47 loop.example/g00485/spec.TenantOk
def k_spec_TenantOk : K :=
 .seq (
  .reg none [⟨(some 1), none, .box 25 10 (.t 0)⟩,
    ⟨(some 2), none, .asn (.c (.bool false))⟩]) (
 .seq (
  .seq (
   .reg none [⟨(some 7), none, .fad 0 (.t 1)⟩,
     ⟨(some 8), none, .ld 1 false (.t 7)⟩,
     ⟨(some 9), none, .call 54 [(.t 8), (.c (.int .i64 (1))), (.c (.int .i64 (20)))]⟩,
     ⟨(some 10), none, .not (.t 9)⟩,
     ⟨(some 11), none, .mv (.t 10)⟩,
     ⟨(some 12), (some (11, false)), .fad 1 (.t 1)⟩,
     ⟨(some 13), (some (11, false)), .ld 1 false (.t 12)⟩,
     ⟨(some 14), (some (11, false)), .call 54 [(.t 13), (.c (.int .i64 (0))), (.c (.int .i64 (2)))]⟩,
     ⟨(some 15), (some (11, false)), .not (.t 14)⟩,
     ⟨(some 16), none, .pick (.t 11) (.c (.bool true)) (.t 15)⟩,
     ⟨(some 17), none, .mv (.t 16)⟩,
     ⟨(some 18), (some (17, false)), .fad 2 (.t 1)⟩,
     ⟨(some 19), (some (17, false)), .ld 1 false (.t 18)⟩,
     ⟨(some 20), (some (17, false)), .call 54 [(.t 19), (.c (.int .i64 (0))), (.c (.int .i64 (5000)))]⟩,
     ⟨(some 21), (some (17, false)), .not (.t 20)⟩,
     ⟨(some 22), none, .pick (.t 17) (.c (.bool true)) (.t 21)⟩,
     ⟨(some 23), none, .mv (.t 22)⟩,
     ⟨(some 24), (some (23, false)), .fad 3 (.t 1)⟩,
     ⟨(some 25), (some (23, false)), .ld 1 false (.t 24)⟩,
     ⟨(some 26), (some (23, false)), .fad 2 (.t 1)⟩,
     ⟨(some 27), (some (23, false)), .ld 1 false (.t 26)⟩,
     ⟨(some 28), (some (23, false)), .call 54 [(.t 25), (.c (.int .i64 (0))), (.t 27)]⟩,
     ⟨(some 29), (some (23, false)), .not (.t 28)⟩,
     ⟨(some 30), none, .pick (.t 23) (.c (.bool true)) (.t 29)⟩]) (
  .cond (.t 30) (
   .seq (
    .reg none [⟨(some 2), none, .asn (.c (.bool false))⟩]) (
   .ret)) (
   .skip))) (
 .seq (
  .seq (
   .reg none [⟨(some 31), none, .fad 4 (.t 1)⟩,
     ⟨(some 32), none, .ld 1 false (.t 31)⟩,
     ⟨(some 33), none, .call 54 [(.t 32), (.c (.int .i64 (0))), (.c (.int .i64 (1000000)))]⟩,
     ⟨(some 34), none, .not (.t 33)⟩,
     ⟨(some 35), none, .mv (.t 34)⟩,
     ⟨(some 36), (some (35, false)), .fad 5 (.t 1)⟩,
     ⟨(some 37), (some (35, false)), .ld 1 false (.t 36)⟩,
     ⟨(some 38), (some (35, false)), .call 54 [(.t 37), (.c (.int .i64 (0))), (.c (.int .i64 (1000000)))]⟩,
     ⟨(some 39), (some (35, false)), .not (.t 38)⟩,
     ⟨(some 40), none, .pick (.t 35) (.c (.bool true)) (.t 39)⟩,
     ⟨(some 41), none, .mv (.t 40)⟩,
     ⟨(some 42), (some (41, false)), .fad 4 (.t 1)⟩,
     ⟨(some 43), (some (41, false)), .ld 1 false (.t 42)⟩,
     ⟨(some 44), (some (41, false)), .bin .gtr (.t 43) (.c (.int .i64 (0)))⟩,
     ⟨(some 45), (some (41, false)), .mv (.t 44)⟩,
     ⟨(some 46), (some (45, true)), .fad 8 (.t 1)⟩,
     ⟨(some 47), (some (45, true)), .ld 1 false (.t 46)⟩,
     ⟨(some 48), (some (45, true)), .len (.t 47)⟩,
     ⟨(some 49), (some (45, true)), .bin .eql (.t 48) (.c (.int .i64 (0)))⟩,
     ⟨(some 50), (some (41, false)), .pick (.t 45) (.t 49) (.c (.bool false))⟩,
     ⟨(some 51), none, .pick (.t 41) (.c (.bool true)) (.t 50)⟩]) (
  .cond (.t 51) (
   .seq (
    .reg none [⟨(some 2), none, .asn (.c (.bool false))⟩]) (
   .ret)) (
   .skip))) (
 .seq (
  .seq (
   .reg none [⟨(some 52), none, .fad 7 (.t 1)⟩,
     ⟨(some 53), none, .ld 1 false (.t 52)⟩,
     ⟨(some 54), none, .call 54 [(.t 53), (.c (.int .i64 (0))), (.c (.int .i64 (1000000)))]⟩,
     ⟨(some 55), none, .not (.t 54)⟩,
     ⟨(some 56), none, .mv (.t 55)⟩,
     ⟨(some 57), (some (56, false)), .fad 6 (.t 1)⟩,
     ⟨(some 58), (some (56, false)), .ld 1 false (.t 57)⟩,
     ⟨(some 59), (some (56, false)), .call 54 [(.t 58), (.c (.int .i64 (0))), (.c (.int .i64 (1000000)))]⟩,
     ⟨(some 60), (some (56, false)), .not (.t 59)⟩,
     ⟨(some 61), none, .pick (.t 56) (.c (.bool true)) (.t 60)⟩,
     ⟨(some 62), none, .mv (.t 61)⟩,
     ⟨(some 63), (some (62, false)), .fad 6 (.t 1)⟩,
     ⟨(some 64), (some (62, false)), .ld 1 false (.t 63)⟩,
     ⟨(some 65), (some (62, false)), .fad 7 (.t 1)⟩,
     ⟨(some 66), (some (62, false)), .ld 1 false (.t 65)⟩,
     ⟨(some 67), (some (62, false)), .bin .sub (.t 64) (.t 66)⟩,
     ⟨(some 68), (some (62, false)), .call 54 [(.t 67), (.c (.int .i64 (0))), (.c (.int .i64 (6)))]⟩,
     ⟨(some 69), (some (62, false)), .not (.t 68)⟩,
     ⟨(some 70), none, .pick (.t 62) (.c (.bool true)) (.t 69)⟩,
     ⟨(some 71), none, .mv (.t 70)⟩,
     ⟨(some 72), (some (71, false)), .fad 8 (.t 1)⟩,
     ⟨(some 73), (some (71, false)), .ld 1 false (.t 72)⟩,
     ⟨(some 74), (some (71, false)), .len (.t 73)⟩,
     ⟨(some 75), (some (71, false)), .bin .gtr (.t 74) (.c (.int .i64 (4)))⟩,
     ⟨(some 76), none, .pick (.t 71) (.c (.bool true)) (.t 75)⟩,
     ⟨(some 77), none, .mv (.t 76)⟩,
     ⟨(some 78), (some (77, false)), .fad 8 (.t 1)⟩,
     ⟨(some 79), (some (77, false)), .ld 1 false (.t 78)⟩,
     ⟨(some 80), (some (77, false)), .len (.t 79)⟩,
     ⟨(some 81), (some (77, false)), .fad 9 (.t 1)⟩,
     ⟨(some 82), (some (77, false)), .ld 1 false (.t 81)⟩,
     ⟨(some 83), (some (77, false)), .len (.t 82)⟩,
     ⟨(some 84), (some (77, false)), .bin .add (.t 80) (.t 83)⟩,
     ⟨(some 85), (some (77, false)), .fad 6 (.t 1)⟩,
     ⟨(some 86), (some (77, false)), .ld 1 false (.t 85)⟩,
     ⟨(some 87), (some (77, false)), .fad 7 (.t 1)⟩,
     ⟨(some 88), (some (77, false)), .ld 1 false (.t 87)⟩,
     ⟨(some 89), (some (77, false)), .bin .sub (.t 86) (.t 88)⟩,
     ⟨(some 90), (some (77, false)), .bin .neq (.t 84) (.t 89)⟩,
     ⟨(some 91), none, .pick (.t 77) (.c (.bool true)) (.t 90)⟩]) (
  .cond (.t 91) (
   .seq (
    .reg none [⟨(some 2), none, .asn (.c (.bool false))⟩]) (
   .ret)) (
   .skip))) (
 .seq (
  .seq (
   .reg none [⟨(some 92), none, .fad 7 (.t 1)⟩,
     ⟨(some 93), none, .ld 1 false (.t 92)⟩,
     ⟨(some 3), none, .asn (.t 93)⟩]) (
  .block 0 (
   .loop (some ([1, 3], [1, 3, 1000])) (
    .seq (
     .seq (
      .reg none [⟨(some 94), none, .mv (.t 3)⟩,
        ⟨(some 95), none, .fad 6 (.t 1)⟩,
        ⟨(some 96), none, .ld 1 false (.t 95)⟩,
        ⟨(some 97), none, .bin .lss (.t 94) (.t 96)⟩]) (
     .cond (.t 97) (
      .skip) (
      .exit 0))) (
    .seq (
     .block 1 (
      .seq (
       .reg none [⟨(some 100), none, .ld 10 true (.t 1)⟩,
         ⟨(some 101), none, .mv (.t 3)⟩,
         ⟨(some 102), none, .call 92 [(.t 100), (.t 101)]⟩,
         ⟨(some 103), none, .bin .neq (.t 102) (.c (.int .i64 (1)))⟩]) (
      .cond (.t 103) (
       .seq (
        .reg none [⟨(some 2), none, .asn (.c (.bool false))⟩]) (
       .ret)) (
       .skip)))) (
    .reg none [⟨(some 98), none, .mv (.t 3)⟩,
      ⟨(some 99), none, .bin .add (.t 98) (.c (.int .i64 (1)))⟩,
      ⟨(some 3), none, .asn (.t 99)⟩])))))) (
 .seq (
  .seq (
   .reg none [⟨(some 4), none, .asn (.c (.int .i64 (0)))⟩]) (
  .block 2 (
   .loop (some ([1, 4], [1, 4, 1000])) (
    .seq (
     .seq (
      .reg none [⟨(some 104), none, .mv (.t 4)⟩,
        ⟨(some 105), none, .fad 8 (.t 1)⟩,
        ⟨(some 106), none, .ld 1 false (.t 105)⟩,
        ⟨(some 107), none, .len (.t 106)⟩,
        ⟨(some 108), none, .bin .lss (.t 104) (.t 107)⟩]) (
     .cond (.t 108) (
      .skip) (
      .exit 2))) (
    .seq (
     .block 3 (
      .seq (
       .reg none [⟨(some 111), none, .fad 8 (.t 1)⟩,
         ⟨(some 112), none, .ld 1 false (.t 111)⟩,
         ⟨(some 113), none, .mv (.t 4)⟩,
         ⟨(some 114), none, .iad 10 (.t 112) (.t 113)⟩,
         ⟨(some 115), none, .ld 10 true (.t 114)⟩,
         ⟨(some 5), none, .alc 133 10 [(.int .i64 (0)), (.int .i64 (0)), (.ar true 3 1 []), (.int .i64 (0)), (.int .i64 (0)), (.int .i64 (0)), (.int .i64 (0)), (.ar true 183 2 []), (.ar true 185 5 []), (.ar true 187 3 [])]⟩,
         ⟨none, none, .st 10 false (.t 5) (.t 115)⟩]) (
      .seq (
       .drw none 32 [⟨(some 116), none, .mv (.t 4)⟩,
         ⟨(some 117), none, .bin .gtr (.t 116) (.c (.int .i64 (0)))⟩,
         ⟨(some 118), none, .mv (.t 117)⟩,
         ⟨(some 119), (some (118, true)), .fad 0 (.t 5)⟩,
         ⟨(some 120), (some (118, true)), .ld 1 false (.t 119)⟩,
         ⟨(some 121), (some (118, true)), .fad 8 (.t 1)⟩,
         ⟨(some 122), (some (118, true)), .ld 1 false (.t 121)⟩,
         ⟨(some 123), (some (118, true)), .mv (.t 4)⟩,
         ⟨(some 124), (some (118, true)), .bin .sub (.t 123) (.c (.int .i64 (1)))⟩,
         ⟨(some 125), (some (118, true)), .iad 10 (.t 122) (.t 124)⟩,
         ⟨(some 126), (some (118, true)), .fad 0 (.t 125)⟩,
         ⟨(some 127), (some (118, true)), .ld 1 false (.t 126)⟩,
         ⟨(some 128), (some (118, true)), .bin .leq (.t 120) (.t 127)⟩,
         ⟨(some 129), none, .pick (.t 118) (.t 128) (.c (.bool false))⟩,
         ⟨(some 130), none, .mv (.t 129)⟩,
         ⟨(some 131), (some (130, false)), .fad 2 (.t 5)⟩,
         ⟨(some 132), (some (130, false)), .ld 1 false (.t 131)⟩,
         ⟨(some 133), (some (130, false)), .call 76 [(.t 132)]⟩,
         ⟨(some 134), (some (130, false)), .not (.t 133)⟩,
         ⟨(some 135), none, .pick (.t 130) (.c (.bool true)) (.t 134)⟩,
         ⟨(some 136), none, .mv (.t 135)⟩,
         ⟨(some 137), (some (136, false)), .fad 1 (.t 5)⟩,
         ⟨(some 138), (some (136, false)), .ld 1 false (.t 137)⟩,
         ⟨(some 139), (some (136, false)), .call 54 [(.t 138), (.c (.int .i64 (0))), (.c (.int .i64 (3)))]⟩,
         ⟨(some 140), (some (136, false)), .not (.t 139)⟩,
         ⟨(some 141), none, .pick (.t 136) (.c (.bool true)) (.t 140)⟩,
         ⟨(some 142), none, .mv (.t 141)⟩,
         ⟨(some 143), (some (142, false)), .fad 3 (.t 5)⟩,
         ⟨(some 144), (some (142, false)), .fad 0 (.t 143)⟩,
         ⟨(some 145), (some (142, false)), .ld 1 false (.t 144)⟩,
         ⟨(some 146), (some (142, false)), .bin .neq (.t 145) (.c (.int .i64 (0)))⟩,
         ⟨(some 147), none, .pick (.t 142) (.c (.bool true)) (.t 146)⟩]) (
      .cond (.t 147) (
       .seq (
        .reg none [⟨(some 2), none, .asn (.c (.bool false))⟩]) (
       .ret)) (
       .skip))))) (
    .reg none [⟨(some 109), none, .mv (.t 4)⟩,
      ⟨(some 110), none, .bin .add (.t 109) (.c (.int .i64 (1)))⟩,
      ⟨(some 4), none, .asn (.t 110)⟩])))))) (
 .seq (
  .seq (
   .reg none [⟨(some 6), none, .asn (.c (.int .i64 (0)))⟩]) (
  .block 4 (
   .loop (some ([1, 6], [1, 6, 1000])) (
    .seq (
     .seq (
      .reg none [⟨(some 148), none, .mv (.t 6)⟩,
        ⟨(some 149), none, .fad 9 (.t 1)⟩,
        ⟨(some 150), none, .ld 1 false (.t 149)⟩,
        ⟨(some 151), none, .len (.t 150)⟩,
        ⟨(some 152), none, .bin .lss (.t 148) (.t 151)⟩]) (
     .cond (.t 152) (
      .skip) (
      .exit 4))) (
    .seq (
     .block 5 (
      .seq (
       .drw none 28 [⟨(some 155), none, .mv (.t 6)⟩,
         ⟨(some 156), none, .bin .gtr (.t 155) (.c (.int .i64 (0)))⟩,
         ⟨(some 157), none, .mv (.t 156)⟩,
         ⟨(some 158), (some (157, true)), .fad 9 (.t 1)⟩,
         ⟨(some 159), (some (157, true)), .ld 1 false (.t 158)⟩,
         ⟨(some 160), (some (157, true)), .mv (.t 6)⟩,
         ⟨(some 161), (some (157, true)), .iad 3 (.t 159) (.t 160)⟩,
         ⟨(some 162), (some (157, true)), .fad 0 (.t 161)⟩,
         ⟨(some 163), (some (157, true)), .ld 1 false (.t 162)⟩,
         ⟨(some 164), (some (157, true)), .fad 9 (.t 1)⟩,
         ⟨(some 165), (some (157, true)), .ld 1 false (.t 164)⟩,
         ⟨(some 166), (some (157, true)), .mv (.t 6)⟩,
         ⟨(some 167), (some (157, true)), .bin .sub (.t 166) (.c (.int .i64 (1)))⟩,
         ⟨(some 168), (some (157, true)), .iad 3 (.t 165) (.t 167)⟩,
         ⟨(some 169), (some (157, true)), .fad 0 (.t 168)⟩,
         ⟨(some 170), (some (157, true)), .ld 1 false (.t 169)⟩,
         ⟨(some 171), (some (157, true)), .bin .leq (.t 163) (.t 170)⟩,
         ⟨(some 172), none, .pick (.t 157) (.t 171) (.c (.bool false))⟩,
         ⟨(some 173), none, .mv (.t 172)⟩,
         ⟨(some 174), (some (173, false)), .fad 9 (.t 1)⟩,
         ⟨(some 175), (some (173, false)), .ld 1 false (.t 174)⟩,
         ⟨(some 176), (some (173, false)), .mv (.t 6)⟩,
         ⟨(some 177), (some (173, false)), .iad 3 (.t 175) (.t 176)⟩,
         ⟨(some 178), (some (173, false)), .fad 1 (.t 177)⟩,
         ⟨(some 179), (some (173, false)), .ld 1 false (.t 178)⟩,
         ⟨(some 180), (some (173, false)), .call 88 [(.t 179)]⟩,
         ⟨(some 181), (some (173, false)), .bin .eql (.t 180) (.c (.str ⟨#[]⟩))⟩,
         ⟨(some 182), none, .pick (.t 173) (.c (.bool true)) (.t 181)⟩]) (
      .cond (.t 182) (
       .seq (
        .reg none [⟨(some 2), none, .asn (.c (.bool false))⟩]) (
       .ret)) (
       .skip)))) (
    .reg none [⟨(some 153), none, .mv (.t 6)⟩,
      ⟨(some 154), none, .bin .add (.t 153) (.c (.int .i64 (1)))⟩,
      ⟨(some 6), none, .asn (.t 154)⟩])))))) (
 .seq (
  .reg none [⟨(some 2), none, .asn (.c (.bool true))⟩]) (
 .ret))))))))
def r_spec_TenantOk : Nat × List RV := (183, [.t 2])

theorem c_spec_TenantOk : cmpS PT PF PA (Try.prog.funcs[47]?) = some (r_spec_TenantOk.1, r_spec_TenantOk.2, stripK k_spec_TenantOk) := by kernel_rfl

set_option maxRecDepth 100000 in
theorem h_spec_TenantOk (t : TTenant) (hw : wTenant t < 2 ^ 40) : CallsF Try.prog 47 [.agg (sTenant t)] (aB (tenantOkS t)) := by
  refine Prun c_spec_TenantOk (by simp [r_spec_TenantOk]) (by simp) ?_
  unfold k_spec_TenantOk r_spec_TenantOk
  have hlq := wL_len wJob t.queue
  have hlo := wL_len wOutcome t.out
  simp only [wTenant] at hw
  simp [sTenant]
  refine callG_F (h_spec_l1In _ _ _) (by simp) ?_
  cases c1 : inr t.quantum 1 20
  · simp [c1, tenantOkS, hdQ]
  simp [c1]
  refine callG_F (h_spec_l1In _ _ _) (by simp) ?_
  cases c2 : inr t.cls 0 2
  · simp [c2, tenantOkS, hdQ]
  simp [c2]
  refine callG_F (h_spec_l1In _ _ _) (by simp) ?_
  cases c3 : inr t.budget 0 5000
  · simp [c3, tenantOkS, hdQ]
  simp [c3]
  refine callG_F (h_spec_l1In _ _ _) (by simp) ?_
  cases c4 : inr t.used 0 t.budget
  · simp [c4, tenantOkS, hdQ]
  simp [c4]
  refine callG_F (h_spec_l1In _ _ _) (by simp) ?_
  cases c5 : inr t.wait 0 1000000
  · simp [c5, tenantOkS, hdC]
  simp [c5]
  refine callG_F (h_spec_l1In _ _ _) (by simp) ?_
  cases c6 : inr t.turns 0 1000000
  · simp [c6, tenantOkS, hdC]
  simp [c6]
  have b5 := inr_iff.1 c5
  have wn : ∀ {n : Int}, -4000000 ≤ n → n ≤ 4000000 → IntKind.i64.wrap n = n := fun h1 h2 => wrapI (by omega) (by omega)
  have wq : IntKind.i64.wrap ((t.queue.length : Int) + t.out.length) = t.queue.length + t.out.length := wrapI (by omega) (by omega)
  by_cases g1 : 0 < t.wait
  · by_cases g2 : t.queue.length = 0
    · have g3 : t.queue = [] := List.eq_nil_of_length_eq_zero g2
      simp [g1, g3, tenantOkS]
    simp [g1, g2]
    refine callG_F (h_spec_l1In _ _ _) (by simp) ?_
    cases c7 : inr t.due 0 1000000
    · simp [c7, tenantOkS, hdC]
    simp [c7]
    refine callG_F (h_spec_l1In _ _ _) (by simp) ?_
    cases c8 : inr t.next 0 1000000
    · simp [c8, tenantOkS, hdC]
    have b7 := inr_iff.1 c7
    have b8 := inr_iff.1 c8
    have wd : IntKind.i64.wrap (t.next - t.due) = t.next - t.due := wn (by omega) (by omega)
    simp [c8, wd]
    refine callG_F (h_spec_l1In _ _ _) (by simp) ?_
    cases c9 : inr (t.next - t.due) 0 6
    · simp [c9, tenantOkS, hdC]
    simp [c9]
    have b9 := inr_iff.1 c9
    by_cases g4 : (4 : Int) < t.queue.length
    · have g4' : ¬ t.queue.length ≤ 4 := by omega
      simp [g4, g4', tenantOkS]
    have g4' : t.queue.length ≤ 4 := by omega
    simp [g4, wq, wd]
    by_cases g5 : (t.queue.length : Int) + t.out.length = t.next - t.due
    case neg => simp [g5, tenantOkS]
    simp [g5]
    obtain ⟨N, hN⟩ : ∃ N : Nat, (N : Int) = t.next - t.due := ⟨(t.next - t.due).toNat, by omega⟩
    have hN2 : (t.next - t.due).toNat = N := by omega
    refine awp_loop (fun n σ => ∃ i : Nat, i ≤ N ∧ n = N - i ∧ allN (p1T t) i = true ∧ σ = ⟨[(1, .one (.pt 10 1 [] 0 0)), (3, aI (t.due + i))], [(1, ⟨25, 10, [sTenant t]⟩)]⟩) N ⟨0, by simp [sTenant, allN]⟩ ?_
    rintro n σ ⟨i, hi, rfl, ha, rfl⟩
    by_cases h : i < N
    · have h' : t.due + (i : Int) < t.next := by omega
      have w1 : IntKind.i64.wrap (t.due + (i : Int) + 1) = t.due + (i + 1 : Nat) := by rw [wn (by omega) (by omega)]; omega
      simp [sTenant, h', -Int.natCast_add]
      refine callG_F (h_l14Has t (t.due + i) (by omega) (by omega)) (by simp [sTenant]) ?_
      by_cases c : hasT t (t.due + i) = 1
      · simp [c]
        refine ⟨N - (i + 1), by omega, i + 1, by omega, rfl, by rw [allN_step, ha]; simp [p1T, c], ?_⟩
        rw [w1]
      · have hf := allN_ff (p := p1T t) h (by simpa [p1T] using c)
        have c' : ¬ ((hasT t (t.due + i) : Nat) : Int) = 1 := by omega
        simp [c', tenantOkS, hN2, hf]
    have : i = N := by omega
    subst this
    have ha1 := ha
    clear ha
    have h' : ¬ (t.due + (i : Int) < t.next) := by omega
    simp [sTenant, h']
    clear h h' hi
    refine awp_loop (fun n σ => ∃ i : Nat, i ≤ t.queue.length ∧ n = t.queue.length - i ∧ allN (p2T t) i = true ∧ σ = ⟨[(1, .one (.pt 10 1 [] 0 0)), (4, aI i)], [(1, ⟨25, 10, [sTenant t]⟩)]⟩) t.queue.length ⟨0, by simp [sTenant, allN]⟩ ?_
    rintro n σ ⟨i, hi, rfl, ha, rfl⟩
    by_cases h : i < t.queue.length
    · have hqi : (qT t).getD i 0 = t.queue[i].ticket := by simp [qT, List.getD, h]
      have hqj : t.queue.getD i default = t.queue[i] := by simp [List.getD, h]
      have w1 : IntKind.i64.wrap ((i : Int) + 1) = i + 1 := wrapI (by omega) (by omega)
      have hff : p2T t i = false → tenantOkS t = false := fun hp => by
        have := allN_ff h hp
        unfold tenantOkS
        rw [this]; simp only [Bool.and_false, Bool.false_and]
      have hin : ∀ {b : Bool}, inputOk t.queue[i].input = b → (b = false → p2T t i = false) := fun h1 h2 => by
        unfold p2T; rw [hqj, jobOk, h1, h2]; simp only [Bool.and_false, Bool.false_and]
      have hst : p2T t i = true → allN (p2T t) (i + 1) = true := fun hp => by rw [allN_step, ha, hp]; rfl
      by_cases h0 : i = 0
      · have hsr : srtAt (qT t) i = true := by simp [srtAt, h0]
        have h0n : ¬ 0 < i := by omega
        simp [sTenant, h, sJob, h0n]
        refine ⟨_, by simp, h_spec_InputOk _, ?_⟩
        cases d1 : inputOk t.queue[i].input
        · have := hff (by unfold p2T; rw [hqj, jobOk, d1]; simp only [Bool.and_false, Bool.false_and])
          simp [this]
        simp
        refine ⟨_, by simp, h_spec_l1In _ _ _, ?_⟩
        cases d2 : inr t.queue[i].gram 0 3
        · have := hff (by unfold p2T; rw [hqj, jobOk, d2]; simp only [Bool.and_false, Bool.false_and])
          simp [this]
        simp
        by_cases d3 : t.queue[i].run.code = 0
        · have hp : p2T t i = true := by unfold p2T; rw [hqj, jobOk, d1, d2, d3, hsr]; rfl
          simp [d3]
          refine ⟨t.queue.length - (i + 1), by omega, i + 1, by omega, rfl, hst hp, ?_⟩
          simp [w1, sTenant]
        · have := hff (by unfold p2T; rw [hqj, jobOk]; simp [d3])
          simp [d3, this]
      · have h1 : i - 1 < t.queue.length := by omega
        have h0' : ¬ (i : Int) = 0 := by omega
        have h0'' : 0 < i := by omega
        have w2 : IntKind.i64.wrap ((i : Int) - 1) = ((i - 1 : Nat) : Int) := by rw [wrapI (by omega) (by omega)]; omega
        have hqi1 : (qT t).getD (i - 1) 0 = t.queue[i - 1].ticket := by simp [qT, List.getD, h1]
        simp [sTenant, h, sJob, h0'', w2, h1]
        by_cases c0 : t.queue[i].ticket ≤ t.queue[i - 1].ticket
        · have hsr : srtAt (qT t) i = false := by simp only [srtAt, hqi, hqi1]; simp [h0]; omega
          have := hff (by unfold p2T; rw [hsr]; rfl)
          simp [c0, this]
        have hsr : srtAt (qT t) i = true := by simp only [srtAt, hqi, hqi1]; simp; omega
        simp [c0]
        refine ⟨_, by simp, h_spec_InputOk _, ?_⟩
        cases d1 : inputOk t.queue[i].input
        · have := hff (by unfold p2T; rw [hqj, jobOk, d1]; simp only [Bool.and_false, Bool.false_and])
          simp [this]
        simp
        refine ⟨_, by simp, h_spec_l1In _ _ _, ?_⟩
        cases d2 : inr t.queue[i].gram 0 3
        · have := hff (by unfold p2T; rw [hqj, jobOk, d2]; simp only [Bool.and_false, Bool.false_and])
          simp [this]
        simp
        by_cases d3 : t.queue[i].run.code = 0
        · have hp : p2T t i = true := by unfold p2T; rw [hqj, jobOk, d1, d2, d3, hsr]; rfl
          simp [d3]
          refine ⟨t.queue.length - (i + 1), by omega, i + 1, by omega, rfl, hst hp, ?_⟩
          simp [w1, sTenant]
        · have := hff (by unfold p2T; rw [hqj, jobOk]; simp [d3])
          simp [d3, this]
    have : i = t.queue.length := by omega
    subst this
    have ha2 := ha
    clear ha
    simp [sTenant]
    refine awp_loop (fun n σ => ∃ i : Nat, i ≤ t.out.length ∧ n = t.out.length - i ∧ allN (p3T t) i = true ∧ σ = ⟨[(1, .one (.pt 10 1 [] 0 0)), (6, aI i)], [(1, ⟨25, 10, [sTenant t]⟩)]⟩) t.out.length ⟨0, by simp [sTenant, allN]⟩ ?_
    rintro n σ ⟨i, hi, rfl, ha, rfl⟩
    by_cases h : i < t.out.length
    · have hqi : (oT t).getD i 0 = t.out[i].ticket := by simp [oT, List.getD, h]
      have hqj : t.out.getD i default = t.out[i] := by simp [List.getD, h]
      have w1 : IntKind.i64.wrap ((i : Int) + 1) = i + 1 := wrapI (by omega) (by omega)
      have hff : p3T t i = false → tenantOkS t = false := fun hp => by
        have := allN_ff h hp
        unfold tenantOkS
        rw [this]; simp only [Bool.and_false]
      have hst : p3T t i = true → allN (p3T t) (i + 1) = true := fun hp => by rw [allN_step, ha, hp]; rfl
      by_cases h0 : i = 0
      · have hsr : srtAt (oT t) i = true := by simp [srtAt, h0]
        have h0n : ¬ 0 < i := by omega
        simp [sTenant, h, sOutcome, h0n]
        refine ⟨_, by simp, h_spec_CodeText _, ?_⟩
        cases d1 : inr t.out[i].code 0 6
        · have := hff (by unfold p3T; rw [hqj, d1]; simp only [Bool.and_false])
          simp [aS, codeText_no d1, this]
        · have hp : p3T t i = true := by unfold p3T; rw [hqj, d1, hsr]; rfl
          simp [aS, codeText_ne d1]
          refine ⟨t.out.length - (i + 1), by omega, i + 1, by omega, rfl, hst hp, ?_⟩
          simp [w1, sTenant]
      · have h1 : i - 1 < t.out.length := by omega
        have h0'' : 0 < i := by omega
        have w2 : IntKind.i64.wrap ((i : Int) - 1) = ((i - 1 : Nat) : Int) := by rw [wrapI (by omega) (by omega)]; omega
        have hqi1 : (oT t).getD (i - 1) 0 = t.out[i - 1].ticket := by simp [oT, List.getD, h1]
        simp [sTenant, h, sOutcome, h0'', w2, h1]
        by_cases c0 : t.out[i].ticket ≤ t.out[i - 1].ticket
        · have hsr : srtAt (oT t) i = false := by simp only [srtAt, hqi, hqi1]; simp [h0]; omega
          have := hff (by unfold p3T; rw [hsr]; rfl)
          simp [c0, this]
        have hsr : srtAt (oT t) i = true := by simp only [srtAt, hqi, hqi1]; simp; omega
        simp [c0, h, sOutcome]
        refine ⟨_, by simp, h_spec_CodeText _, ?_⟩
        cases d1 : inr t.out[i].code 0 6
        · have := hff (by unfold p3T; rw [hqj, d1]; simp only [Bool.and_false])
          simp [aS, codeText_no d1, this]
        · have hp : p3T t i = true := by unfold p3T; rw [hqj, d1, hsr]; rfl
          simp [aS, codeText_ne d1]
          refine ⟨t.out.length - (i + 1), by omega, i + 1, by omega, rfl, hst hp, ?_⟩
          simp [w1, sTenant]
    have : i = t.out.length := by omega
    subst this
    have hfin : tenantOkS t = true := by
      unfold tenantOkS
      rw [hN2, ha1, ha2, ha]
      simp [hdQ, hdC, c1, c2, c3, c4, c5, c6, c7, c8, c9, g1, g4', g5, g2]
    simp [sTenant, hfin]
  · simp [g1]
    refine callG_F (h_spec_l1In _ _ _) (by simp) ?_
    cases c7 : inr t.due 0 1000000
    · simp [c7, tenantOkS, hdC]
    simp [c7]
    refine callG_F (h_spec_l1In _ _ _) (by simp) ?_
    cases c8 : inr t.next 0 1000000
    · simp [c8, tenantOkS, hdC]
    have b7 := inr_iff.1 c7
    have b8 := inr_iff.1 c8
    have wd : IntKind.i64.wrap (t.next - t.due) = t.next - t.due := wn (by omega) (by omega)
    simp [c8, wd]
    refine callG_F (h_spec_l1In _ _ _) (by simp) ?_
    cases c9 : inr (t.next - t.due) 0 6
    · simp [c9, tenantOkS, hdC]
    simp [c9]
    have b9 := inr_iff.1 c9
    by_cases g4 : (4 : Int) < t.queue.length
    · have g4' : ¬ t.queue.length ≤ 4 := by omega
      simp [g4, g4', tenantOkS]
    have g4' : t.queue.length ≤ 4 := by omega
    simp [g4, wq, wd]
    by_cases g5 : (t.queue.length : Int) + t.out.length = t.next - t.due
    case neg => simp [g5, tenantOkS]
    simp [g5]
    obtain ⟨N, hN⟩ : ∃ N : Nat, (N : Int) = t.next - t.due := ⟨(t.next - t.due).toNat, by omega⟩
    have hN2 : (t.next - t.due).toNat = N := by omega
    refine awp_loop (fun n σ => ∃ i : Nat, i ≤ N ∧ n = N - i ∧ allN (p1T t) i = true ∧ σ = ⟨[(1, .one (.pt 10 1 [] 0 0)), (3, aI (t.due + i))], [(1, ⟨25, 10, [sTenant t]⟩)]⟩) N ⟨0, by simp [sTenant, allN]⟩ ?_
    rintro n σ ⟨i, hi, rfl, ha, rfl⟩
    by_cases h : i < N
    · have h' : t.due + (i : Int) < t.next := by omega
      have w1 : IntKind.i64.wrap (t.due + (i : Int) + 1) = t.due + (i + 1 : Nat) := by rw [wn (by omega) (by omega)]; omega
      simp [sTenant, h', -Int.natCast_add]
      refine callG_F (h_l14Has t (t.due + i) (by omega) (by omega)) (by simp [sTenant]) ?_
      by_cases c : hasT t (t.due + i) = 1
      · simp [c]
        refine ⟨N - (i + 1), by omega, i + 1, by omega, rfl, by rw [allN_step, ha]; simp [p1T, c], ?_⟩
        rw [w1]
      · have hf := allN_ff (p := p1T t) h (by simpa [p1T] using c)
        have c' : ¬ ((hasT t (t.due + i) : Nat) : Int) = 1 := by omega
        simp [c', tenantOkS, hN2, hf]
    have : i = N := by omega
    subst this
    have ha1 := ha
    clear ha
    have h' : ¬ (t.due + (i : Int) < t.next) := by omega
    simp [sTenant, h']
    clear h h' hi
    refine awp_loop (fun n σ => ∃ i : Nat, i ≤ t.queue.length ∧ n = t.queue.length - i ∧ allN (p2T t) i = true ∧ σ = ⟨[(1, .one (.pt 10 1 [] 0 0)), (4, aI i)], [(1, ⟨25, 10, [sTenant t]⟩)]⟩) t.queue.length ⟨0, by simp [sTenant, allN]⟩ ?_
    rintro n σ ⟨i, hi, rfl, ha, rfl⟩
    by_cases h : i < t.queue.length
    · have hqi : (qT t).getD i 0 = t.queue[i].ticket := by simp [qT, List.getD, h]
      have hqj : t.queue.getD i default = t.queue[i] := by simp [List.getD, h]
      have w1 : IntKind.i64.wrap ((i : Int) + 1) = i + 1 := wrapI (by omega) (by omega)
      have hff : p2T t i = false → tenantOkS t = false := fun hp => by
        have := allN_ff h hp
        unfold tenantOkS
        rw [this]; simp only [Bool.and_false, Bool.false_and]
      have hin : ∀ {b : Bool}, inputOk t.queue[i].input = b → (b = false → p2T t i = false) := fun h1 h2 => by
        unfold p2T; rw [hqj, jobOk, h1, h2]; simp only [Bool.and_false, Bool.false_and]
      have hst : p2T t i = true → allN (p2T t) (i + 1) = true := fun hp => by rw [allN_step, ha, hp]; rfl
      by_cases h0 : i = 0
      · have hsr : srtAt (qT t) i = true := by simp [srtAt, h0]
        have h0n : ¬ 0 < i := by omega
        simp [sTenant, h, sJob, h0n]
        refine ⟨_, by simp, h_spec_InputOk _, ?_⟩
        cases d1 : inputOk t.queue[i].input
        · have := hff (by unfold p2T; rw [hqj, jobOk, d1]; simp only [Bool.and_false, Bool.false_and])
          simp [this]
        simp
        refine ⟨_, by simp, h_spec_l1In _ _ _, ?_⟩
        cases d2 : inr t.queue[i].gram 0 3
        · have := hff (by unfold p2T; rw [hqj, jobOk, d2]; simp only [Bool.and_false, Bool.false_and])
          simp [this]
        simp
        by_cases d3 : t.queue[i].run.code = 0
        · have hp : p2T t i = true := by unfold p2T; rw [hqj, jobOk, d1, d2, d3, hsr]; rfl
          simp [d3]
          refine ⟨t.queue.length - (i + 1), by omega, i + 1, by omega, rfl, hst hp, ?_⟩
          simp [w1, sTenant]
        · have := hff (by unfold p2T; rw [hqj, jobOk]; simp [d3])
          simp [d3, this]
      · have h1 : i - 1 < t.queue.length := by omega
        have h0' : ¬ (i : Int) = 0 := by omega
        have h0'' : 0 < i := by omega
        have w2 : IntKind.i64.wrap ((i : Int) - 1) = ((i - 1 : Nat) : Int) := by rw [wrapI (by omega) (by omega)]; omega
        have hqi1 : (qT t).getD (i - 1) 0 = t.queue[i - 1].ticket := by simp [qT, List.getD, h1]
        simp [sTenant, h, sJob, h0'', w2, h1]
        by_cases c0 : t.queue[i].ticket ≤ t.queue[i - 1].ticket
        · have hsr : srtAt (qT t) i = false := by simp only [srtAt, hqi, hqi1]; simp [h0]; omega
          have := hff (by unfold p2T; rw [hsr]; rfl)
          simp [c0, this]
        have hsr : srtAt (qT t) i = true := by simp only [srtAt, hqi, hqi1]; simp; omega
        simp [c0]
        refine ⟨_, by simp, h_spec_InputOk _, ?_⟩
        cases d1 : inputOk t.queue[i].input
        · have := hff (by unfold p2T; rw [hqj, jobOk, d1]; simp only [Bool.and_false, Bool.false_and])
          simp [this]
        simp
        refine ⟨_, by simp, h_spec_l1In _ _ _, ?_⟩
        cases d2 : inr t.queue[i].gram 0 3
        · have := hff (by unfold p2T; rw [hqj, jobOk, d2]; simp only [Bool.and_false, Bool.false_and])
          simp [this]
        simp
        by_cases d3 : t.queue[i].run.code = 0
        · have hp : p2T t i = true := by unfold p2T; rw [hqj, jobOk, d1, d2, d3, hsr]; rfl
          simp [d3]
          refine ⟨t.queue.length - (i + 1), by omega, i + 1, by omega, rfl, hst hp, ?_⟩
          simp [w1, sTenant]
        · have := hff (by unfold p2T; rw [hqj, jobOk]; simp [d3])
          simp [d3, this]
    have : i = t.queue.length := by omega
    subst this
    have ha2 := ha
    clear ha
    simp [sTenant]
    refine awp_loop (fun n σ => ∃ i : Nat, i ≤ t.out.length ∧ n = t.out.length - i ∧ allN (p3T t) i = true ∧ σ = ⟨[(1, .one (.pt 10 1 [] 0 0)), (6, aI i)], [(1, ⟨25, 10, [sTenant t]⟩)]⟩) t.out.length ⟨0, by simp [sTenant, allN]⟩ ?_
    rintro n σ ⟨i, hi, rfl, ha, rfl⟩
    by_cases h : i < t.out.length
    · have hqi : (oT t).getD i 0 = t.out[i].ticket := by simp [oT, List.getD, h]
      have hqj : t.out.getD i default = t.out[i] := by simp [List.getD, h]
      have w1 : IntKind.i64.wrap ((i : Int) + 1) = i + 1 := wrapI (by omega) (by omega)
      have hff : p3T t i = false → tenantOkS t = false := fun hp => by
        have := allN_ff h hp
        unfold tenantOkS
        rw [this]; simp only [Bool.and_false]
      have hst : p3T t i = true → allN (p3T t) (i + 1) = true := fun hp => by rw [allN_step, ha, hp]; rfl
      by_cases h0 : i = 0
      · have hsr : srtAt (oT t) i = true := by simp [srtAt, h0]
        have h0n : ¬ 0 < i := by omega
        simp [sTenant, h, sOutcome, h0n]
        refine ⟨_, by simp, h_spec_CodeText _, ?_⟩
        cases d1 : inr t.out[i].code 0 6
        · have := hff (by unfold p3T; rw [hqj, d1]; simp only [Bool.and_false])
          simp [aS, codeText_no d1, this]
        · have hp : p3T t i = true := by unfold p3T; rw [hqj, d1, hsr]; rfl
          simp [aS, codeText_ne d1]
          refine ⟨t.out.length - (i + 1), by omega, i + 1, by omega, rfl, hst hp, ?_⟩
          simp [w1, sTenant]
      · have h1 : i - 1 < t.out.length := by omega
        have h0'' : 0 < i := by omega
        have w2 : IntKind.i64.wrap ((i : Int) - 1) = ((i - 1 : Nat) : Int) := by rw [wrapI (by omega) (by omega)]; omega
        have hqi1 : (oT t).getD (i - 1) 0 = t.out[i - 1].ticket := by simp [oT, List.getD, h1]
        simp [sTenant, h, sOutcome, h0'', w2, h1]
        by_cases c0 : t.out[i].ticket ≤ t.out[i - 1].ticket
        · have hsr : srtAt (oT t) i = false := by simp only [srtAt, hqi, hqi1]; simp [h0]; omega
          have := hff (by unfold p3T; rw [hsr]; rfl)
          simp [c0, this]
        have hsr : srtAt (oT t) i = true := by simp only [srtAt, hqi, hqi1]; simp; omega
        simp [c0, h, sOutcome]
        refine ⟨_, by simp, h_spec_CodeText _, ?_⟩
        cases d1 : inr t.out[i].code 0 6
        · have := hff (by unfold p3T; rw [hqj, d1]; simp only [Bool.and_false])
          simp [aS, codeText_no d1, this]
        · have hp : p3T t i = true := by unfold p3T; rw [hqj, d1, hsr]; rfl
          simp [aS, codeText_ne d1]
          refine ⟨t.out.length - (i + 1), by omega, i + 1, by omega, rfl, hst hp, ?_⟩
          simp [w1, sTenant]
    have : i = t.out.length := by omega
    subst this
    have hfin : tenantOkS t = true := by
      unfold tenantOkS
      rw [hN2, ha1, ha2, ha]
      simp [hdQ, hdC, c1, c2, c3, c4, c5, c6, c7, c8, c9, g1, g4', g5, Int.not_lt.1 g1]
    simp [sTenant, hfin]
end Go.Am
-- Tickets
namespace Go.Am
open Go.Proofs
set_option maxHeartbeats 4000000
set_option maxRecDepth 100000
-- 94 loop.example/g00485/impl.isCount
def k_impl_isCount : K :=
 .seq (
  .reg none [⟨(some 2), none, .asn (.c (.bool false))⟩]) (
 .seq (
  .reg none [⟨(some 3), none, .mv (.t 0)⟩,
    ⟨(some 4), none, .call 93 [(.t 3), (.c (.int .i64 (0))), (.c (.int .i64 (1000000)))]⟩,
    ⟨(some 2), none, .asn (.t 4)⟩]) (
 .ret))
def r_impl_isCount : Nat × List RV := (5, [.t 2])

theorem c_impl_isCount : cmpS PT PF PA (Try.prog.funcs[94]?) = some (r_impl_isCount.1, r_impl_isCount.2, stripK k_impl_isCount) := by kernel_rfl

theorem h_isCount (a : Int) : CallsF Try.prog 94 [aI a] (aB (inr a 0 1000000)) := by
  refine Prun c_impl_isCount (by simp [r_impl_isCount]) (by simp) ?_
  unfold k_impl_isCount r_impl_isCount
  simp
  refine callG_F (h_impl_inRange _ _ _) (by simp) ?_
  simp
-- 95 loop.example/g00485/impl.ticketsOk
def k_impl_ticketsOk : K :=
 .seq (
  .reg none [⟨(some 1), none, .box 25 10 (.t 0)⟩,
    ⟨(some 2), none, .asn (.c (.bool false))⟩]) (
 .seq (
  .seq (
   .reg none [⟨(some 9), none, .fad 8 (.t 1)⟩,
     ⟨(some 10), none, .ld 1 false (.t 9)⟩,
     ⟨(some 11), none, .len (.t 10)⟩,
     ⟨(some 12), none, .fad 9 (.t 1)⟩,
     ⟨(some 13), none, .ld 1 false (.t 12)⟩,
     ⟨(some 14), none, .len (.t 13)⟩,
     ⟨(some 15), none, .bin .add (.t 11) (.t 14)⟩,
     ⟨(some 16), none, .fad 6 (.t 1)⟩,
     ⟨(some 17), none, .ld 1 false (.t 16)⟩,
     ⟨(some 18), none, .fad 7 (.t 1)⟩,
     ⟨(some 19), none, .ld 1 false (.t 18)⟩,
     ⟨(some 20), none, .bin .sub (.t 17) (.t 19)⟩,
     ⟨(some 21), none, .bin .neq (.t 15) (.t 20)⟩]) (
  .cond (.t 21) (
   .seq (
    .reg none [⟨(some 2), none, .asn (.c (.bool false))⟩]) (
   .ret)) (
   .skip))) (
 .seq (
  .reg none [⟨(some 3), none, .asn (.c (.ar true 3 1 []))⟩]) (
 .seq (
  .seq (
   .reg none [⟨(some 22), none, .fad 8 (.t 1)⟩,
     ⟨(some 23), none, .ld 1 false (.t 22)⟩,
     ⟨(some 24), none, .len (.t 23)⟩,
     ⟨(some 25), none, .mv (.c (.int .i64 (0)))⟩]) (
  .block 0 (
   .loop (some ([1, 3, 23, 24, 25], [1, 3, 1000])) (
    .seq (
     .reg none [⟨(some 26), none, .bin .lss (.t 25) (.t 24)⟩]) (
    .seq (
     .cond (.t 26) (
      .skip) (
      .exit 0)) (
    .seq (
     .block 1 (
      .seq (
       .reg none [⟨(some 27), none, .mv (.t 25)⟩,
         ⟨(some 28), none, .iad 10 (.t 23) (.t 25)⟩,
         ⟨(some 29), none, .ld 10 true (.t 28)⟩,
         ⟨(some 5), none, .alc 133 10 [(.int .i64 (0)), (.int .i64 (0)), (.ar true 3 1 []), (.int .i64 (0)), (.int .i64 (0)), (.int .i64 (0)), (.int .i64 (0)), (.ar true 183 2 []), (.ar true 185 5 []), (.ar true 187 3 [])]⟩,
         ⟨(some 4), none, .asn (.t 27)⟩,
         ⟨none, none, .st 10 false (.t 5) (.t 29)⟩]) (
      .seq (
       .seq (
        .drw none 14 [⟨(some 30), none, .mv (.t 4)⟩,
          ⟨(some 31), none, .bin .gtr (.t 30) (.c (.int .i64 (0)))⟩,
          ⟨(some 32), none, .mv (.t 31)⟩,
          ⟨(some 33), (some (32, true)), .fad 0 (.t 5)⟩,
          ⟨(some 34), (some (32, true)), .ld 1 false (.t 33)⟩,
          ⟨(some 35), (some (32, true)), .fad 8 (.t 1)⟩,
          ⟨(some 36), (some (32, true)), .ld 1 false (.t 35)⟩,
          ⟨(some 37), (some (32, true)), .mv (.t 4)⟩,
          ⟨(some 38), (some (32, true)), .bin .sub (.t 37) (.c (.int .i64 (1)))⟩,
          ⟨(some 39), (some (32, true)), .iad 10 (.t 36) (.t 38)⟩,
          ⟨(some 40), (some (32, true)), .fad 0 (.t 39)⟩,
          ⟨(some 41), (some (32, true)), .ld 1 false (.t 40)⟩,
          ⟨(some 42), (some (32, true)), .bin .leq (.t 34) (.t 41)⟩,
          ⟨(some 43), none, .pick (.t 32) (.t 42) (.c (.bool false))⟩]) (
       .cond (.t 43) (
        .seq (
         .reg none [⟨(some 2), none, .asn (.c (.bool false))⟩]) (
        .ret)) (
        .skip))) (
      .reg none [⟨(some 44), none, .mv (.t 3)⟩,
        ⟨(some 45), none, .fad 0 (.t 5)⟩,
        ⟨(some 46), none, .ld 1 false (.t 45)⟩,
        ⟨(some 47), none, .bls 3 1 false [(.t 46)]⟩,
        ⟨(some 48), none, .app 3 1 8 false (.t 44) (.t 47)⟩,
        ⟨(some 3), none, .asn (.t 48)⟩])))) (
    .reg none [⟨(some 49), none, .bin .add (.t 25) (.c (.int .i64 (1)))⟩,
      ⟨(some 25), none, .mv (.t 49)⟩]))))))) (
 .seq (
  .seq (
   .reg none [⟨(some 50), none, .fad 9 (.t 1)⟩,
     ⟨(some 51), none, .ld 1 false (.t 50)⟩,
     ⟨(some 52), none, .len (.t 51)⟩,
     ⟨(some 53), none, .mv (.c (.int .i64 (0)))⟩]) (
  .block 2 (
   .loop (some ([1, 3, 51, 52, 53], [1, 3, 1000])) (
    .seq (
     .reg none [⟨(some 54), none, .bin .lss (.t 53) (.t 52)⟩]) (
    .seq (
     .cond (.t 54) (
      .skip) (
      .exit 2)) (
    .seq (
     .block 3 (
      .seq (
       .reg none [⟨(some 55), none, .mv (.t 53)⟩,
         ⟨(some 56), none, .iad 3 (.t 51) (.t 53)⟩,
         ⟨(some 57), none, .ld 3 true (.t 56)⟩,
         ⟨(some 7), none, .alc 102 3 [(.int .i64 (0)), (.int .i64 (0)), (.str ⟨#[]⟩)]⟩,
         ⟨(some 6), none, .asn (.t 55)⟩,
         ⟨none, none, .st 3 false (.t 7) (.t 57)⟩]) (
      .seq (
       .seq (
        .drw none 20 [⟨(some 58), none, .mv (.t 6)⟩,
          ⟨(some 59), none, .bin .gtr (.t 58) (.c (.int .i64 (0)))⟩,
          ⟨(some 60), none, .mv (.t 59)⟩,
          ⟨(some 61), (some (60, true)), .fad 0 (.t 7)⟩,
          ⟨(some 62), (some (60, true)), .ld 1 false (.t 61)⟩,
          ⟨(some 63), (some (60, true)), .fad 9 (.t 1)⟩,
          ⟨(some 64), (some (60, true)), .ld 1 false (.t 63)⟩,
          ⟨(some 65), (some (60, true)), .mv (.t 6)⟩,
          ⟨(some 66), (some (60, true)), .bin .sub (.t 65) (.c (.int .i64 (1)))⟩,
          ⟨(some 67), (some (60, true)), .iad 3 (.t 64) (.t 66)⟩,
          ⟨(some 68), (some (60, true)), .fad 0 (.t 67)⟩,
          ⟨(some 69), (some (60, true)), .ld 1 false (.t 68)⟩,
          ⟨(some 70), (some (60, true)), .bin .leq (.t 62) (.t 69)⟩,
          ⟨(some 71), none, .pick (.t 60) (.t 70) (.c (.bool false))⟩,
          ⟨(some 72), none, .mv (.t 71)⟩,
          ⟨(some 73), (some (72, false)), .fad 1 (.t 7)⟩,
          ⟨(some 74), (some (72, false)), .ld 1 false (.t 73)⟩,
          ⟨(some 75), (some (72, false)), .call 90 [(.t 74)]⟩,
          ⟨(some 76), (some (72, false)), .bin .eql (.t 75) (.c (.str ⟨#[]⟩))⟩,
          ⟨(some 77), none, .pick (.t 72) (.c (.bool true)) (.t 76)⟩]) (
       .cond (.t 77) (
        .seq (
         .reg none [⟨(some 2), none, .asn (.c (.bool false))⟩]) (
        .ret)) (
        .skip))) (
      .reg none [⟨(some 78), none, .mv (.t 3)⟩,
        ⟨(some 79), none, .fad 0 (.t 7)⟩,
        ⟨(some 80), none, .ld 1 false (.t 79)⟩,
        ⟨(some 81), none, .bls 3 1 false [(.t 80)]⟩,
        ⟨(some 82), none, .app 3 1 8 false (.t 78) (.t 81)⟩,
        ⟨(some 3), none, .asn (.t 82)⟩])))) (
    .reg none [⟨(some 83), none, .bin .add (.t 53) (.c (.int .i64 (1)))⟩,
      ⟨(some 53), none, .mv (.t 83)⟩]))))))) (
 .seq (
  .seq (
   .reg none [⟨(some 84), none, .fad 7 (.t 1)⟩,
     ⟨(some 85), none, .ld 1 false (.t 84)⟩,
     ⟨(some 8), none, .asn (.t 85)⟩]) (
  .block 4 (
   .loop (some ([1, 3, 8], [1, 3, 8, 1000])) (
    .seq (
     .seq (
      .reg none [⟨(some 86), none, .mv (.t 8)⟩,
        ⟨(some 87), none, .fad 6 (.t 1)⟩,
        ⟨(some 88), none, .ld 1 false (.t 87)⟩,
        ⟨(some 89), none, .bin .lss (.t 86) (.t 88)⟩]) (
     .cond (.t 89) (
      .skip) (
      .exit 4))) (
    .seq (
     .block 5 (
      .seq (
       .reg none [⟨(some 92), none, .mv (.t 3)⟩,
         ⟨(some 93), none, .mv (.t 8)⟩,
         ⟨(some 94), none, .call 142 [(.t 92), (.t 93)]⟩,
         ⟨(some 95), none, .not (.t 94)⟩]) (
      .cond (.t 95) (
       .seq (
        .reg none [⟨(some 2), none, .asn (.c (.bool false))⟩]) (
       .ret)) (
       .skip)))) (
    .reg none [⟨(some 90), none, .mv (.t 8)⟩,
      ⟨(some 91), none, .bin .add (.t 90) (.c (.int .i64 (1)))⟩,
      ⟨(some 8), none, .asn (.t 91)⟩])))))) (
 .seq (
  .reg none [⟨(some 2), none, .asn (.c (.bool true))⟩]) (
 .ret)))))))
def r_impl_ticketsOk : Nat × List RV := (96, [.t 2])

theorem c_impl_ticketsOk : cmpS PT PF PA (Try.prog.funcs[95]?) = some (r_impl_ticketsOk.1, r_impl_ticketsOk.2, stripK k_impl_ticketsOk) := by kernel_rfl

set_option maxRecDepth 100000 in
theorem h_ticketsOk (t : TTenant) (hq : t.queue.length ≤ 4) (ho : t.out.length < 2 ^ 40) (b7 : 0 ≤ t.due ∧ t.due ≤ 1000000) (b8 : 0 ≤ t.next ∧ t.next ≤ 1000000) : CallsF Try.prog 95 [.agg (sTenant t)] (aB (ticketsOk t)) := by
  refine Prun c_impl_ticketsOk (by simp [r_impl_ticketsOk]) (by simp) ?_
  unfold k_impl_ticketsOk r_impl_ticketsOk
  have wn : ∀ {n : Int}, -4000000 ≤ n → n ≤ 4000000 → IntKind.i64.wrap n = n := fun h1 h2 => wrapI (by omega) (by omega)
  have wq : IntKind.i64.wrap ((t.queue.length : Int) + t.out.length) = t.queue.length + t.out.length := wrapI (by omega) (by omega)
  have wd : IntKind.i64.wrap (t.next - t.due) = t.next - t.due := wn (by omega) (by omega)
  simp [sTenant, wq, wd]
  by_cases g5 : (t.queue.length : Int) + t.out.length = t.next - t.due
  case neg => simp [g5, ticketsOk]
  simp [g5]
  refine awp_loop (fun n σ => ∃ i : Nat, i ≤ t.queue.length ∧ n = t.queue.length - i ∧ allN (srtAt (qT t)) i = true ∧ σ = ⟨[(1, .one (.pt 10 1 [] 0 0)), (3, .one (.vw 3 1 3 [] 0 i)), (23, .one (.ar false 0 10 (t.queue.map sJob))), (24, aI t.queue.length), (25, aI i)], [(1, ⟨25, 10, [sTenant t]⟩), (3, ⟨3, 1, ((qT t).take i).map rI⟩)]⟩) t.queue.length ⟨0, by simp [sTenant, allN]⟩ ?_
  rintro n σ ⟨i, hi, rfl, ha, rfl⟩
  by_cases h : i < t.queue.length
  · have hqi : (qT t).getD i 0 = t.queue[i].ticket := by simp [qT, List.getD, h]
    have w1 : IntKind.i64.wrap ((i : Int) + 1) = i + 1 := wrapI (by omega) (by omega)
    have hff : srtAt (qT t) i = false → ticketsOk t = false := fun hp => by
      have := allN_ff h hp
      unfold ticketsOk
      rw [this]; simp only [Bool.and_false, Bool.false_and]
    have hst : srtAt (qT t) i = true → allN (srtAt (qT t)) (i + 1) = true := fun hp => by rw [allN_step, ha, hp]; rfl
    have hLn : ((qT t).take i).length = i := by simp [qT]; omega
    have hLs : ((qT t).take (i + 1)) = (qT t).take i ++ [t.queue[i].ticket] := by
      rw [List.take_succ_eq_append_getElem (by simpa [qT] using h)]; simp [qT]
    have hbN : i + 1 ≤ 4294967296 := by omega
    generalize (qT t).take i = L at *
    have hT : List.take i (L.map rI) = L.map rI := List.take_of_length_le (by simp [hLn])
    by_cases h0 : i = 0
    · have hsr : srtAt (qT t) i = true := by simp [srtAt, h0]
      have h0n : ¬ 0 < i := by omega
      simp [sTenant, h, sJob, h0n, hbN, hLn, hT]
      refine ⟨t.queue.length - (i + 1), by omega, i + 1, by omega, rfl, hst hsr, ?_⟩
      simp [w1, hT, sTenant]
      rw [← List.map_take, hLs]
      simp [rI]
    · have h1 : i - 1 < t.queue.length := by omega
      have h0'' : 0 < i := by omega
      have w2 : IntKind.i64.wrap ((i : Int) - 1) = ((i - 1 : Nat) : Int) := by rw [wrapI (by omega) (by omega)]; omega
      have hqi1 : (qT t).getD (i - 1) 0 = t.queue[i - 1].ticket := by simp [qT, List.getD, h1]
      simp [sTenant, h, sJob, h0'', w2, h1]
      by_cases c0 : t.queue[i].ticket ≤ t.queue[i - 1].ticket
      · have hsr : srtAt (qT t) i = false := by simp only [srtAt, hqi, hqi1]; simp [h0]; omega
        simp [c0, hff hsr]
      have hsr : srtAt (qT t) i = true := by simp only [srtAt, hqi, hqi1]; simp; omega
      simp [c0, hbN, hLn, hT]
      refine ⟨t.queue.length - (i + 1), by omega, i + 1, by omega, rfl, hst hsr, ?_⟩
      simp [w1, hT, sTenant]
      rw [← List.map_take, hLs]
      simp [rI]
  have : i = t.queue.length := by omega
  subst this
  have ha1 := ha
  clear ha h hi
  have hqq : (qT t).take t.queue.length = qT t := List.take_of_length_le (by simp [qT])
  simp [sTenant, hqq]
  refine awp_loop (fun n σ => ∃ i : Nat, i ≤ t.out.length ∧ n = t.out.length - i ∧ allN (p3T t) i = true ∧ σ = ⟨[(1, .one (.pt 10 1 [] 0 0)), (3, .one (.vw 3 1 3 [] 0 (t.queue.length + i))), (51, .one (.ar false 0 3 (t.out.map sOutcome))), (52, aI t.out.length), (53, aI i)], [(1, ⟨25, 10, [sTenant t]⟩), (3, ⟨3, 1, (qT t ++ (oT t).take i).map rI⟩)]⟩) t.out.length ⟨0, by simp [sTenant, allN]⟩ ?_
  rintro n σ ⟨i, hi, rfl, ha, rfl⟩
  by_cases h : i < t.out.length
  · have hqi : (oT t).getD i 0 = t.out[i].ticket := by simp [oT, List.getD, h]
    have hqj : t.out.getD i default = t.out[i] := by simp [List.getD, h]
    have w1 : IntKind.i64.wrap ((i : Int) + 1) = i + 1 := wrapI (by omega) (by omega)
    have hff : p3T t i = false → ticketsOk t = false := fun hp => by
      have := allN_ff h hp
      unfold ticketsOk
      rw [show (fun i => srtAt (oT t) i && inr (t.out.getD i default).code 0 6) = p3T t from rfl, this]; simp only [Bool.and_false, Bool.false_and]
    have hst : p3T t i = true → allN (p3T t) (i + 1) = true := fun hp => by rw [allN_step, ha, hp]; rfl
    have hLn : (qT t ++ (oT t).take i).length = t.queue.length + i := by simp [qT, oT]; omega
    have hLs : qT t ++ (oT t).take (i + 1) = (qT t ++ (oT t).take i) ++ [t.out[i].ticket] := by
      rw [List.take_succ_eq_append_getElem (by simpa [oT] using h), List.append_assoc]; simp [oT]
    have hbN : t.queue.length + i + 1 ≤ 4294967296 := by omega
    generalize qT t ++ (oT t).take i = L at *
    have hT : List.take (t.queue.length + i) (L.map rI) = L.map rI := List.take_of_length_le (by simp [hLn])
    by_cases h0 : i = 0
    · have hsr : srtAt (oT t) i = true := by simp [srtAt, h0]
      have h0n : ¬ 0 < i := by omega
      simp [sTenant, h, sOutcome, h0n, hbN, hLn, hT]
      refine ⟨_, by simp, h_impl_CodeText _, ?_⟩
      cases d1 : inr t.out[i].code 0 6
      · have := hff (by unfold p3T; rw [hqj, d1]; simp only [Bool.and_false])
        simp [aS, codeText_no d1, this]
      · have hp : p3T t i = true := by unfold p3T; rw [hqj, d1, hsr]; rfl
        simp [aS, codeText_ne d1, hbN, hLn, hT]
        refine ⟨t.out.length - (i + 1), by omega, i + 1, by omega, rfl, hst hp, ?_⟩
        simp [w1, hT, sTenant, Nat.add_assoc]
        rw [← List.map_take, ← List.map_append, hLs]
        simp [rI]
    · have h1 : i - 1 < t.out.length := by omega
      have h0'' : 0 < i := by omega
      have w2 : IntKind.i64.wrap ((i : Int) - 1) = ((i - 1 : Nat) : Int) := by rw [wrapI (by omega) (by omega)]; omega
      have hqi1 : (oT t).getD (i - 1) 0 = t.out[i - 1].ticket := by simp [oT, List.getD, h1]
      simp [sTenant, h, sOutcome, h0'', w2, h1]
      by_cases c0 : t.out[i].ticket ≤ t.out[i - 1].ticket
      · have hsr : srtAt (oT t) i = false := by simp only [srtAt, hqi, hqi1]; simp [h0]; omega
        have := hff (by unfold p3T; rw [hsr]; rfl)
        simp [c0, this]
      have hsr : srtAt (oT t) i = true := by simp only [srtAt, hqi, hqi1]; simp; omega
      simp [c0, hbN, hLn, hT]
      refine ⟨_, by simp, h_impl_CodeText _, ?_⟩
      cases d1 : inr t.out[i].code 0 6
      · have := hff (by unfold p3T; rw [hqj, d1]; simp only [Bool.and_false])
        simp [aS, codeText_no d1, this]
      · have hp : p3T t i = true := by unfold p3T; rw [hqj, d1, hsr]; rfl
        simp [aS, codeText_ne d1, hbN, hLn, hT]
        refine ⟨t.out.length - (i + 1), by omega, i + 1, by omega, rfl, hst hp, ?_⟩
        simp [w1, hT, sTenant, Nat.add_assoc]
        rw [← List.map_take, ← List.map_append, hLs]
        simp [rI]
  have : i = t.out.length := by omega
  subst this
  have ha2 := ha
  clear ha h hi
  have hoo : (oT t).take t.out.length = oT t := List.take_of_length_le (by simp [oT])
  rw [hoo]
  obtain ⟨N, hN⟩ : ∃ N : Nat, (N : Int) = t.next - t.due := ⟨(t.next - t.due).toNat, by omega⟩
  have hN2 : (t.next - t.due).toNat = N := by omega
  have hl : (qT t ++ oT t).length = t.queue.length + t.out.length := by simp [qT, oT]
  have hp4 : (fun k : Nat => decide (t.due + (k : Int) ∈ qT t ++ oT t)) = p4T t := rfl
  have hTT : List.take (t.queue.length + t.out.length) ((qT t ++ oT t).map rI) = (qT t ++ oT t).map rI := List.take_of_length_le (by rw [List.length_map, hl]; exact Nat.le_refl _)
  have hct : ∀ x, CallsF Try.prog 142 [.one (.ar false 0 1 ((qT t ++ oT t).map rI)), aI x] (aB (decide (x ∈ qT t ++ oT t))) := fun x => h_slicesContains _ x (by rw [hl]; omega)
  have hdef : ∀ k : Nat, p4T t k = decide (t.due + (k : Int) ∈ qT t ++ oT t) := fun _ => rfl
  have hfN : ∀ {i}, i < N → p4T t i = false → ticketsOk t = false := fun h hp => by
    have := allN_ff h hp
    unfold ticketsOk
    rw [hN2, hp4, this]; simp only [Bool.and_false]
  have hfin0 : allN (p4T t) N = true → ticketsOk t = true := fun ha => by
    unfold ticketsOk
    rw [hN2, hp4, ha, ha1, show (fun i => srtAt (oT t) i && inr (t.out.getD i default).code 0 6) = p3T t from rfl, ha2]
    simp [g5]
  clear hp4
  generalize qT t ++ oT t = L at *
  simp [sTenant]
  refine awp_loop (fun n σ => ∃ i : Nat, i ≤ N ∧ n = N - i ∧ allN (p4T t) i = true ∧ σ = ⟨[(1, .one (.pt 10 1 [] 0 0)), (3, .one (.vw 3 1 3 [] 0 (t.queue.length + t.out.length))), (8, aI (t.due + i))], [(1, ⟨25, 10, [sTenant t]⟩), (3, ⟨3, 1, L.map rI⟩)]⟩) N ⟨0, by simp [sTenant, allN]⟩ ?_
  rintro n σ ⟨i, hi, rfl, ha, rfl⟩
  by_cases h : i < N
  · have h' : t.due + (i : Int) < t.next := by omega
    have w1 : IntKind.i64.wrap (t.due + (i : Int) + 1) = t.due + (i + 1 : Nat) := by rw [wn (by omega) (by omega)]; omega
    simp [sTenant, h', hTT, hl, -Int.natCast_add]
    refine callG_F (hct _) (by simp) ?_
    cases c : decide (t.due + (i : Int) ∈ L)
    · have := hfN h (by rw [hdef, c])
      simp [this]
    · simp
      refine ⟨N - (i + 1), by omega, i + 1, by omega, rfl, by rw [allN_step, ha, hdef, c]; rfl, ?_⟩
      rw [w1]
  have : i = N := by omega
  subst this
  have h' : ¬ (t.due + (i : Int) < t.next) := by omega
  have hfin := hfin0 ha
  simp [sTenant, h', hfin]
end Go.Am
-- TenantOkI
namespace Go.Am
open Go.Proofs
set_option maxHeartbeats 4000000
set_option maxRecDepth 100000
-- 48 loop.example/g00485/impl.TenantOk
def k_impl_TenantOk : K :=
 .seq (
  .reg none [⟨(some 1), none, .box 25 10 (.t 0)⟩,
    ⟨(some 2), none, .asn (.c (.bool false))⟩]) (
 .seq (
  .seq (
   .reg none [⟨(some 5), none, .fad 0 (.t 1)⟩,
     ⟨(some 6), none, .ld 1 false (.t 5)⟩,
     ⟨(some 7), none, .call 93 [(.t 6), (.c (.int .i64 (1))), (.c (.int .i64 (20)))]⟩,
     ⟨(some 8), none, .not (.t 7)⟩,
     ⟨(some 9), none, .mv (.t 8)⟩,
     ⟨(some 10), (some (9, false)), .fad 1 (.t 1)⟩,
     ⟨(some 11), (some (9, false)), .ld 1 false (.t 10)⟩,
     ⟨(some 12), (some (9, false)), .call 93 [(.t 11), (.c (.int .i64 (0))), (.c (.int .i64 (2)))]⟩,
     ⟨(some 13), (some (9, false)), .not (.t 12)⟩,
     ⟨(some 14), none, .pick (.t 9) (.c (.bool true)) (.t 13)⟩,
     ⟨(some 15), none, .mv (.t 14)⟩,
     ⟨(some 16), (some (15, false)), .fad 2 (.t 1)⟩,
     ⟨(some 17), (some (15, false)), .ld 1 false (.t 16)⟩,
     ⟨(some 18), (some (15, false)), .call 93 [(.t 17), (.c (.int .i64 (0))), (.c (.int .i64 (5000)))]⟩,
     ⟨(some 19), (some (15, false)), .not (.t 18)⟩,
     ⟨(some 20), none, .pick (.t 15) (.c (.bool true)) (.t 19)⟩,
     ⟨(some 21), none, .mv (.t 20)⟩,
     ⟨(some 22), (some (21, false)), .fad 3 (.t 1)⟩,
     ⟨(some 23), (some (21, false)), .ld 1 false (.t 22)⟩,
     ⟨(some 24), (some (21, false)), .fad 2 (.t 1)⟩,
     ⟨(some 25), (some (21, false)), .ld 1 false (.t 24)⟩,
     ⟨(some 26), (some (21, false)), .call 93 [(.t 23), (.c (.int .i64 (0))), (.t 25)]⟩,
     ⟨(some 27), (some (21, false)), .not (.t 26)⟩,
     ⟨(some 28), none, .pick (.t 21) (.c (.bool true)) (.t 27)⟩]) (
  .cond (.t 28) (
   .seq (
    .reg none [⟨(some 2), none, .asn (.c (.bool false))⟩]) (
   .ret)) (
   .skip))) (
 .seq (
  .seq (
   .reg none [⟨(some 29), none, .fad 4 (.t 1)⟩,
     ⟨(some 30), none, .ld 1 false (.t 29)⟩,
     ⟨(some 31), none, .call 94 [(.t 30)]⟩,
     ⟨(some 32), none, .not (.t 31)⟩,
     ⟨(some 33), none, .mv (.t 32)⟩,
     ⟨(some 34), (some (33, false)), .fad 5 (.t 1)⟩,
     ⟨(some 35), (some (33, false)), .ld 1 false (.t 34)⟩,
     ⟨(some 36), (some (33, false)), .call 94 [(.t 35)]⟩,
     ⟨(some 37), (some (33, false)), .not (.t 36)⟩,
     ⟨(some 38), none, .pick (.t 33) (.c (.bool true)) (.t 37)⟩,
     ⟨(some 39), none, .mv (.t 38)⟩,
     ⟨(some 40), (some (39, false)), .fad 7 (.t 1)⟩,
     ⟨(some 41), (some (39, false)), .ld 1 false (.t 40)⟩,
     ⟨(some 42), (some (39, false)), .call 94 [(.t 41)]⟩,
     ⟨(some 43), (some (39, false)), .not (.t 42)⟩,
     ⟨(some 44), none, .pick (.t 39) (.c (.bool true)) (.t 43)⟩,
     ⟨(some 45), none, .mv (.t 44)⟩,
     ⟨(some 46), (some (45, false)), .fad 6 (.t 1)⟩,
     ⟨(some 47), (some (45, false)), .ld 1 false (.t 46)⟩,
     ⟨(some 48), (some (45, false)), .call 94 [(.t 47)]⟩,
     ⟨(some 49), (some (45, false)), .not (.t 48)⟩,
     ⟨(some 50), none, .pick (.t 45) (.c (.bool true)) (.t 49)⟩,
     ⟨(some 51), none, .mv (.t 50)⟩,
     ⟨(some 52), (some (51, false)), .fad 6 (.t 1)⟩,
     ⟨(some 53), (some (51, false)), .ld 1 false (.t 52)⟩,
     ⟨(some 54), (some (51, false)), .fad 7 (.t 1)⟩,
     ⟨(some 55), (some (51, false)), .ld 1 false (.t 54)⟩,
     ⟨(some 56), (some (51, false)), .bin .sub (.t 53) (.t 55)⟩,
     ⟨(some 57), (some (51, false)), .call 93 [(.t 56), (.c (.int .i64 (0))), (.c (.int .i64 (6)))]⟩,
     ⟨(some 58), (some (51, false)), .not (.t 57)⟩,
     ⟨(some 59), none, .pick (.t 51) (.c (.bool true)) (.t 58)⟩]) (
  .cond (.t 59) (
   .seq (
    .reg none [⟨(some 2), none, .asn (.c (.bool false))⟩]) (
   .ret)) (
   .skip))) (
 .seq (
  .seq (
   .reg none [⟨(some 60), none, .fad 8 (.t 1)⟩,
     ⟨(some 61), none, .ld 1 false (.t 60)⟩,
     ⟨(some 62), none, .len (.t 61)⟩,
     ⟨(some 63), none, .bin .eql (.t 62) (.c (.int .i64 (0)))⟩,
     ⟨(some 64), none, .mv (.t 63)⟩,
     ⟨(some 65), (some (64, true)), .fad 4 (.t 1)⟩,
     ⟨(some 66), (some (64, true)), .ld 1 false (.t 65)⟩,
     ⟨(some 67), (some (64, true)), .bin .neq (.t 66) (.c (.int .i64 (0)))⟩,
     ⟨(some 68), none, .pick (.t 64) (.t 67) (.c (.bool false))⟩,
     ⟨(some 69), none, .mv (.t 68)⟩,
     ⟨(some 70), (some (69, false)), .fad 8 (.t 1)⟩,
     ⟨(some 71), (some (69, false)), .ld 1 false (.t 70)⟩,
     ⟨(some 72), (some (69, false)), .len (.t 71)⟩,
     ⟨(some 73), (some (69, false)), .bin .gtr (.t 72) (.c (.int .i64 (4)))⟩,
     ⟨(some 74), none, .pick (.t 69) (.c (.bool true)) (.t 73)⟩,
     ⟨(some 75), none, .mv (.t 74)⟩,
     ⟨(some 76), (some (75, false)), .ld 10 true (.t 1)⟩,
     ⟨(some 77), (some (75, false)), .call 95 [(.t 76)]⟩,
     ⟨(some 78), (some (75, false)), .not (.t 77)⟩,
     ⟨(some 79), none, .pick (.t 75) (.c (.bool true)) (.t 78)⟩]) (
  .cond (.t 79) (
   .seq (
    .reg none [⟨(some 2), none, .asn (.c (.bool false))⟩]) (
   .ret)) (
   .skip))) (
 .seq (
  .seq (
   .reg none [⟨(some 80), none, .fad 8 (.t 1)⟩,
     ⟨(some 81), none, .ld 1 false (.t 80)⟩,
     ⟨(some 82), none, .len (.t 81)⟩,
     ⟨(some 83), none, .mv (.c (.int .i64 (0)))⟩]) (
  .block 0 (
   .loop (some ([81, 82, 83], [1, 1000])) (
    .seq (
     .reg none [⟨(some 84), none, .bin .lss (.t 83) (.t 82)⟩]) (
    .seq (
     .cond (.t 84) (
      .skip) (
      .exit 0)) (
    .seq (
     .block 1 (
      .seq (
       .reg none [⟨(some 85), none, .iad 10 (.t 81) (.t 83)⟩,
         ⟨(some 86), none, .ld 10 true (.t 85)⟩,
         ⟨(some 4), none, .alc 133 10 [(.int .i64 (0)), (.int .i64 (0)), (.ar true 3 1 []), (.int .i64 (0)), (.int .i64 (0)), (.int .i64 (0)), (.int .i64 (0)), (.ar true 183 2 []), (.ar true 185 5 []), (.ar true 187 3 [])]⟩,
         ⟨none, none, .st 10 false (.t 4) (.t 86)⟩]) (
      .seq (
       .reg none [⟨(some 87), none, .fad 2 (.t 4)⟩,
         ⟨(some 88), none, .ld 1 false (.t 87)⟩,
         ⟨(some 89), none, .call 96 [(.t 88)]⟩,
         ⟨(some 90), none, .not (.t 89)⟩,
         ⟨(some 91), none, .mv (.t 90)⟩,
         ⟨(some 92), (some (91, false)), .fad 1 (.t 4)⟩,
         ⟨(some 93), (some (91, false)), .ld 1 false (.t 92)⟩,
         ⟨(some 94), (some (91, false)), .call 93 [(.t 93), (.c (.int .i64 (0))), (.c (.int .i64 (3)))]⟩,
         ⟨(some 95), (some (91, false)), .not (.t 94)⟩,
         ⟨(some 96), none, .pick (.t 91) (.c (.bool true)) (.t 95)⟩,
         ⟨(some 97), none, .mv (.t 96)⟩,
         ⟨(some 98), (some (97, false)), .fad 3 (.t 4)⟩,
         ⟨(some 99), (some (97, false)), .fad 0 (.t 98)⟩,
         ⟨(some 100), (some (97, false)), .ld 1 false (.t 99)⟩,
         ⟨(some 101), (some (97, false)), .bin .neq (.t 100) (.c (.int .i64 (0)))⟩,
         ⟨(some 102), none, .pick (.t 97) (.c (.bool true)) (.t 101)⟩]) (
      .cond (.t 102) (
       .seq (
        .reg none [⟨(some 2), none, .asn (.c (.bool false))⟩]) (
       .ret)) (
       .skip))))) (
    .reg none [⟨(some 103), none, .bin .add (.t 83) (.c (.int .i64 (1)))⟩,
      ⟨(some 83), none, .mv (.t 103)⟩]))))))) (
 .seq (
  .reg none [⟨(some 2), none, .asn (.c (.bool true))⟩]) (
 .ret))))))
def r_impl_TenantOk : Nat × List RV := (104, [.t 2])

theorem c_impl_TenantOk : cmpS PT PF PA (Try.prog.funcs[48]?) = some (r_impl_TenantOk.1, r_impl_TenantOk.2, stripK k_impl_TenantOk) := by kernel_rfl

set_option maxRecDepth 100000 in
theorem h_impl_TenantOk (t : TTenant) (hl : lTenant t) (hw : wTenant t < 2 ^ 40) : CallsF Try.prog 48 [.agg (sTenant t)] (aB (tenantOk t)) := by
  refine Prun c_impl_TenantOk (by simp [r_impl_TenantOk]) (by simp) ?_
  unfold k_impl_TenantOk r_impl_TenantOk
  have hlq := wL_len wJob t.queue
  have hlo := wL_len wOutcome t.out
  simp only [wTenant] at hw
  have wn : ∀ {n : Int}, -4000000 ≤ n → n ≤ 4000000 → IntKind.i64.wrap n = n := fun h1 h2 => wrapI (by omega) (by omega)
  simp [sTenant]
  refine callG_F (h_impl_inRange _ _ _) (by simp) ?_
  cases c1 : inr t.quantum 1 20
  · simp [c1, tenantOk, hdQ]
  simp [c1]
  refine callG_F (h_impl_inRange _ _ _) (by simp) ?_
  cases c2 : inr t.cls 0 2
  · simp [c2, tenantOk, hdQ]
  simp [c2]
  refine callG_F (h_impl_inRange _ _ _) (by simp) ?_
  cases c3 : inr t.budget 0 5000
  · simp [c3, tenantOk, hdQ]
  simp [c3]
  refine callG_F (h_impl_inRange _ _ _) (by simp) ?_
  cases c4 : inr t.used 0 t.budget
  · simp [c4, tenantOk, hdQ]
  simp [c4]
  refine callG_F (h_isCount _) (by simp) ?_
  cases c5 : inr t.wait 0 1000000
  · simp [c5, tenantOk, hdC]
  simp [c5]
  refine callG_F (h_isCount _) (by simp) ?_
  cases c6 : inr t.turns 0 1000000
  · simp [c6, tenantOk, hdC]
  simp [c6]
  refine callG_F (h_isCount _) (by simp) ?_
  cases c7 : inr t.due 0 1000000
  · simp [c7, tenantOk, hdC]
  simp [c7]
  refine callG_F (h_isCount _) (by simp) ?_
  cases c8 : inr t.next 0 1000000
  · simp [c8, tenantOk, hdC]
  have b7 := inr_iff.1 c7
  have b8 := inr_iff.1 c8
  have wd : IntKind.i64.wrap (t.next - t.due) = t.next - t.due := wn (by omega) (by omega)
  simp [c8, wd]
  refine callG_F (h_impl_inRange _ _ _) (by simp) ?_
  cases c9 : inr (t.next - t.due) 0 6
  · simp [c9, tenantOk, hdC]
  simp [c9]
  by_cases g1 : t.queue.length = 0
  · have g3 : t.queue = [] := List.eq_nil_of_length_eq_zero g1
    by_cases g2 : t.wait = 0
    · have g1' : (t.queue.length : Int) = 0 := by omega
      have g3' : (t.queue = []) = True := eq_true g3
      have g2' : (t.wait = 0) = True := eq_true g2
      simp [g3', g2']
      by_cases g4 : (4 : Int) < t.queue.length
      · have g4' : ¬ t.queue.length ≤ 4 := by omega
        simp [g4, g4', tenantOk]
      have g4' : t.queue.length ≤ 4 := by omega
      simp [g4]
      refine callG_F (h_ticketsOk t g4' (by omega) b7 b8) (by simp [sTenant]) ?_
      cases c10 : ticketsOk t
      · simp [c10, tenantOk]
      simp
      refine awp_loop (fun n σ => ∃ i : Nat, i ≤ t.queue.length ∧ n = t.queue.length - i ∧ allTo jobOk t.queue i = true ∧ σ = ⟨[(81, .one (.ar false 0 10 (t.queue.map sJob))), (82, aI t.queue.length), (83, aI i)], [(1, ⟨25, 10, [sTenant t]⟩)]⟩) t.queue.length ⟨0, by simp [sTenant, allTo_zero]⟩ ?_
      rintro n σ ⟨i, hi, rfl, ha, rfl⟩
      by_cases h : i < t.queue.length
      · have w1 : IntKind.i64.wrap ((i : Int) + 1) = i + 1 := wrapI (by omega) (by omega)
        have hff : jobOk t.queue[i] = false → tenantOk t = false := fun hp => by
          have := all_ff h hp
          unfold tenantOk
          rw [this]; simp only [Bool.and_false]
        have hst : jobOk t.queue[i] = true → allTo jobOk t.queue (i + 1) = true := fun hp => by rw [allTo_step h, ha, hp]; rfl
        have hji : (t.queue[i].input).length < 2 ^ 63 := ((hl.1.2 i h).1).1
        simp [h, sJob]
        refine callG_F (h_impl_InputOk _ hji) (by simp) ?_
        cases d1 : inputOk t.queue[i].input
        · have := hff (by rw [jobOk, d1]; simp only [Bool.and_false, Bool.false_and])
          simp [this]
        simp
        refine callG_F (h_impl_inRange _ _ _) (by simp) ?_
        cases d2 : inr t.queue[i].gram 0 3
        · have := hff (by rw [jobOk, d2]; simp only [Bool.and_false, Bool.false_and])
          simp [this]
        simp
        by_cases d3 : t.queue[i].run.code = 0
        · have hp : jobOk t.queue[i] = true := by rw [jobOk, d1, d2, d3]; rfl
          simp [d3]
          refine ⟨t.queue.length - (i + 1), by omega, i + 1, by omega, rfl, hst hp, ?_⟩
          simp [w1, sTenant]
        · have := hff (by rw [jobOk]; simp [d3])
          simp [d3, this]
      have : i = t.queue.length := by omega
      subst this
      rw [allTo_all] at ha
      have hfin : tenantOk t = true := by
        unfold tenantOk
        rw [ha, c10]
        simp [hdQ, hdC, c1, c2, c3, c4, c5, c6, c7, c8, c9, g4', g2']
      simp [sTenant, hfin]
    · have g1' : (t.queue.length : Int) = 0 := by omega
      simp [g3, g2, tenantOk]
  · have g1' : ¬ (t.queue.length : Int) = 0 := by omega
    have g3' : (t.queue = []) = False := eq_false (fun h => g1 (by rw [h]; rfl))
    simp [g3']
    by_cases g4 : (4 : Int) < t.queue.length
    · have g4' : ¬ t.queue.length ≤ 4 := by omega
      simp [g4, g4', tenantOk]
    have g4' : t.queue.length ≤ 4 := by omega
    simp [g4]
    refine callG_F (h_ticketsOk t g4' (by omega) b7 b8) (by simp [sTenant]) ?_
    cases c10 : ticketsOk t
    · simp [c10, tenantOk]
    simp
    refine awp_loop (fun n σ => ∃ i : Nat, i ≤ t.queue.length ∧ n = t.queue.length - i ∧ allTo jobOk t.queue i = true ∧ σ = ⟨[(81, .one (.ar false 0 10 (t.queue.map sJob))), (82, aI t.queue.length), (83, aI i)], [(1, ⟨25, 10, [sTenant t]⟩)]⟩) t.queue.length ⟨0, by simp [sTenant, allTo_zero]⟩ ?_
    rintro n σ ⟨i, hi, rfl, ha, rfl⟩
    by_cases h : i < t.queue.length
    · have w1 : IntKind.i64.wrap ((i : Int) + 1) = i + 1 := wrapI (by omega) (by omega)
      have hff : jobOk t.queue[i] = false → tenantOk t = false := fun hp => by
        have := all_ff h hp
        unfold tenantOk
        rw [this]; simp only [Bool.and_false]
      have hst : jobOk t.queue[i] = true → allTo jobOk t.queue (i + 1) = true := fun hp => by rw [allTo_step h, ha, hp]; rfl
      have hji : (t.queue[i].input).length < 2 ^ 63 := ((hl.1.2 i h).1).1
      simp [h, sJob]
      refine callG_F (h_impl_InputOk _ hji) (by simp) ?_
      cases d1 : inputOk t.queue[i].input
      · have := hff (by rw [jobOk, d1]; simp only [Bool.and_false, Bool.false_and])
        simp [this]
      simp
      refine callG_F (h_impl_inRange _ _ _) (by simp) ?_
      cases d2 : inr t.queue[i].gram 0 3
      · have := hff (by rw [jobOk, d2]; simp only [Bool.and_false, Bool.false_and])
        simp [this]
      simp
      by_cases d3 : t.queue[i].run.code = 0
      · have hp : jobOk t.queue[i] = true := by rw [jobOk, d1, d2, d3]; rfl
        simp [d3]
        refine ⟨t.queue.length - (i + 1), by omega, i + 1, by omega, rfl, hst hp, ?_⟩
        simp [w1, sTenant]
      · have := hff (by rw [jobOk]; simp [d3])
        simp [d3, this]
    have : i = t.queue.length := by omega
    subst this
    rw [allTo_all] at ha
    have hfin : tenantOk t = true := by
      unfold tenantOk
      rw [ha, c10]
      simp [hdQ, hdC, c1, c2, c3, c4, c5, c6, c7, c8, c9, g4', g1]
    simp [sTenant, hfin]
end Go.Am
-- Cl_int
namespace Go.Am
open Go.Proofs
set_option maxHeartbeats 4000000
set_option maxRecDepth 100000
attribute [-simp] rErr_len sErr_len shr_rErr shr_sErr shrs_rErr shrs_sErr noSh_rErr mErr_wr mErr_n rSlot_len sSlot_len shr_rSlot shr_sSlot shrs_rSlot shrs_sSlot noSh_rSlot mSlot_wr mSlot_n rNode_len sNode_len shr_rNode shr_sNode shrs_rNode shrs_sNode noSh_rNode mNode_wr mNode_n rTree_len sTree_len shr_rTree shr_sTree shrs_rTree shrs_sTree noSh_rTree mTree_wr mTree_n rRun_len sRun_len shr_rRun shr_sRun shrs_rRun shrs_sRun noSh_rRun mRun_wr mRun_n rJob_len sJob_len shr_rJob shr_sJob shrs_rJob shrs_sJob noSh_rJob mJob_wr mJob_n rOutcome_len sOutcome_len shr_rOutcome shr_sOutcome shrs_rOutcome shrs_sOutcome noSh_rOutcome mOutcome_wr mOutcome_n rTenant_len sTenant_len shr_rTenant shr_sTenant shrs_rTenant shrs_sTenant noSh_rTenant mTenant_wr mTenant_n
def renCl_int : Shelf.Ren := ⟨fun _ => 124, fun k => if k = 9 then 3 else if k = 24 then 34 else k, fun k => k⟩
theorem laidCl_int : AmL.LCl Try.prog renCl_int 1 where
  mixed := by kernel_rfl
  f16 := ⟨((Try.prog.funcs[124]?).map (·.name)).getD "", by kernel_rfl, by kernel_rfl⟩
  t4 := Try.underlying4
  a4 := Try.isAgg4
  z4 := Try.sizeOf4
  z9 := Try.sizeOf3
  t24 := Try.underlying34
  a24 := Try.isAgg34
  z24 := Try.sizeOf34
  i9 := by
    obtain ⟨i, h1, h2, h3, h4⟩ := info_parts (show (Try.prog.info? 3).map (fun i => (i.zero, i.size, i.bytes)) = some (some (.int .i64 0), 1, 8) by kernel_rfl)
    exact ⟨i, _, h1, h2, h3, by omega, rfl⟩
  he := by decide
theorem h_clone_int (xs : List Int) (hn : xs.length ≤ 4294967296) : CallsF Try.prog 124 [.one (.ar false 0 1 (xs.map rI))] (.one (.ar true 3 1 (xs.map rI))) :=
  clone_callsF laidCl_int (xs.map rI) (by simpa using hn)
end Go.Am
-- Cl_Slot
namespace Go.Am
open Go.Proofs
set_option maxHeartbeats 4000000
set_option maxRecDepth 100000
attribute [-simp] rErr_len sErr_len shr_rErr shr_sErr shrs_rErr shrs_sErr noSh_rErr mErr_wr mErr_n rNode_len sNode_len shr_rNode shr_sNode shrs_rNode shrs_sNode noSh_rNode mNode_wr mNode_n rTree_len sTree_len shr_rTree shr_sTree shrs_rTree shrs_sTree noSh_rTree mTree_wr mTree_n rRun_len sRun_len shr_rRun shr_sRun shrs_rRun shrs_sRun noSh_rRun mRun_wr mRun_n rJob_len sJob_len shr_rJob shr_sJob shrs_rJob shrs_sJob noSh_rJob mJob_wr mJob_n rOutcome_len sOutcome_len shr_rOutcome shr_sOutcome shrs_rOutcome shrs_sOutcome noSh_rOutcome mOutcome_wr mOutcome_n rTenant_len sTenant_len shr_rTenant shr_sTenant shrs_rTenant shrs_sTenant noSh_rTenant mTenant_wr mTenant_n
def renCl_Slot : Shelf.Ren := ⟨fun _ => 159, fun k => if k = 9 then 183 else if k = 24 then 125 else k, fun k => k⟩
theorem laidCl_Slot : AmL.LCl Try.prog renCl_Slot 2 where
  mixed := by kernel_rfl
  f16 := ⟨((Try.prog.funcs[159]?).map (·.name)).getD "", by kernel_rfl, by kernel_rfl⟩
  t4 := Try.underlying4
  a4 := Try.isAgg4
  z4 := Try.sizeOf4
  z9 := Try.sizeOf183
  t24 := Try.underlying125
  a24 := Try.isAgg125
  z24 := Try.sizeOf125
  i9 := by
    obtain ⟨i, h1, h2, h3, h4⟩ := info_parts (show (Try.prog.info? 183).map (fun i => (i.zero, i.size, i.bytes)) = some (some (.agg #[.int .i64 0, .int .i64 0]), 2, 16) by kernel_rfl)
    exact ⟨i, _, h1, h2, h3, by omega, rfl⟩
  he := by decide
theorem h_clone_Slot (xs : List TSlot) (hn : xs.length ≤ 4294967296) : CallsF Try.prog 159 [.one (.ar false 0 2 (xs.map rSlot))] (.one (.ar true 183 2 (xs.map rSlot))) :=
  clone_callsF laidCl_Slot (xs.map rSlot) (by simpa using hn)
end Go.Am
-- Cl_Err
namespace Go.Am
open Go.Proofs
set_option maxHeartbeats 4000000
set_option maxRecDepth 100000
attribute [-simp] rSlot_len sSlot_len shr_rSlot shr_sSlot shrs_rSlot shrs_sSlot noSh_rSlot mSlot_wr mSlot_n rNode_len sNode_len shr_rNode shr_sNode shrs_rNode shrs_sNode noSh_rNode mNode_wr mNode_n rTree_len sTree_len shr_rTree shr_sTree shrs_rTree shrs_sTree noSh_rTree mTree_wr mTree_n rRun_len sRun_len shr_rRun shr_sRun shrs_rRun shrs_sRun noSh_rRun mRun_wr mRun_n rJob_len sJob_len shr_rJob shr_sJob shrs_rJob shrs_sJob noSh_rJob mJob_wr mJob_n rOutcome_len sOutcome_len shr_rOutcome shr_sOutcome shrs_rOutcome shrs_sOutcome noSh_rOutcome mOutcome_wr mOutcome_n rTenant_len sTenant_len shr_rTenant shr_sTenant shrs_rTenant shrs_sTenant noSh_rTenant mTenant_wr mTenant_n
def renCl_Err : Shelf.Ren := ⟨fun _ => 161, fun k => if k = 9 then 187 else if k = 24 then 129 else k, fun k => k⟩
theorem laidCl_Err : AmL.LCl Try.prog renCl_Err 3 where
  mixed := by kernel_rfl
  f16 := ⟨((Try.prog.funcs[161]?).map (·.name)).getD "", by kernel_rfl, by kernel_rfl⟩
  t4 := Try.underlying4
  a4 := Try.isAgg4
  z4 := Try.sizeOf4
  z9 := Try.sizeOf187
  t24 := Try.underlying129
  a24 := Try.isAgg129
  z24 := Try.sizeOf129
  i9 := by
    obtain ⟨i, h1, h2, h3, h4⟩ := info_parts (show (Try.prog.info? 187).map (fun i => (i.zero, i.size, i.bytes)) = some (some (.agg #[.int .i64 0, .int .i64 0, .int .i64 0]), 3, 24) by kernel_rfl)
    exact ⟨i, _, h1, h2, h3, by omega, rfl⟩
  he := by decide
theorem h_clone_Err (xs : List TErr) (hn : xs.length ≤ 4294967296) : CallsF Try.prog 161 [.one (.ar false 0 3 (xs.map rErr))] (.one (.ar true 187 3 (xs.map rErr))) :=
  clone_callsF laidCl_Err (xs.map rErr) (by simpa using hn)
end Go.Am
-- Copies1
namespace Go.Am
open Go.Proofs
set_option maxHeartbeats 4000000
set_option maxRecDepth 100000
attribute [-simp] rJob_len sJob_len shr_rJob shr_sJob shrs_rJob shrs_sJob noSh_rJob mJob_wr mJob_n rOutcome_len sOutcome_len shr_rOutcome shr_sOutcome shrs_rOutcome shrs_sOutcome noSh_rOutcome mOutcome_wr mOutcome_n rTenant_len sTenant_len shr_rTenant shr_sTenant shrs_rTenant shrs_sTenant noSh_rTenant mTenant_wr mTenant_n
@[simp] theorem map_rs_Slot (xs : List TSlot) : xs.map rSlot = xs.map sSlot := rfl
@[simp] theorem map_rs_Err (xs : List TErr) : xs.map rErr = xs.map sErr := rfl
-- 160 loop.example/g00485/impl.copyTree
def k_impl_copyTree : K :=
 .seq (
  .reg none [⟨(some 1), none, .box 128 1 (.t 0)⟩,
    ⟨(some 2), none, .alc 128 1 [(.ar true 185 5 [])]⟩]) (
 .seq (
  .reg none [⟨(some 3), none, .alc 128 1 [(.ar true 185 5 [])]⟩]) (
 .seq (
  .seq (
   .reg none [⟨(some 6), none, .fad 0 (.t 1)⟩,
     ⟨(some 7), none, .ld 1 false (.t 6)⟩,
     ⟨(some 8), none, .len (.t 7)⟩,
     ⟨(some 9), none, .mv (.c (.int .i64 (0)))⟩]) (
  .block 0 (
   .loop (some ([2, 3, 7, 8, 9], [1, 2, 3, 1000])) (
    .seq (
     .reg none [⟨(some 10), none, .bin .lss (.t 9) (.t 8)⟩]) (
    .seq (
     .cond (.t 10) (
      .skip) (
      .exit 0)) (
    .seq (
     .block 1 (
      .seq (
       .reg none [⟨(some 11), none, .iad 5 (.t 7) (.t 9)⟩,
         ⟨(some 12), none, .ld 5 true (.t 11)⟩,
         ⟨(some 5), none, .alc 185 5 [(.int .i64 (0)), (.int .i64 (0)), (.int .i64 (0)), (.int .i64 (0)), (.ar true 3 1 [])]⟩,
         ⟨none, none, .st 5 false (.t 5) (.t 12)⟩]) (
      .seq (
       .reg none [⟨(some 13), none, .fad 4 (.t 5)⟩,
         ⟨(some 14), none, .ld 1 false (.t 13)⟩,
         ⟨(some 15), none, .call 124 [(.t 14)]⟩,
         ⟨(some 16), none, .fad 4 (.t 5)⟩,
         ⟨none, none, .st 1 false (.t 16) (.t 15)⟩]) (
      .reg none [⟨(some 17), none, .fad 0 (.t 3)⟩,
        ⟨(some 18), none, .ld 1 false (.t 17)⟩,
        ⟨(some 19), none, .ld 5 true (.t 5)⟩,
        ⟨(some 20), none, .bls 185 5 false [(.t 19)]⟩,
        ⟨(some 21), none, .app 185 5 56 false (.t 18) (.t 20)⟩,
        ⟨(some 22), none, .fad 0 (.t 3)⟩,
        ⟨none, none, .st 1 false (.t 22) (.t 21)⟩])))) (
    .reg none [⟨(some 23), none, .bin .add (.t 9) (.c (.int .i64 (1)))⟩,
      ⟨(some 9), none, .mv (.t 23)⟩]))))))) (
 .seq (
  .reg none [⟨(some 24), none, .ld 1 true (.t 3)⟩,
    ⟨none, none, .st 1 false (.t 2) (.t 24)⟩]) (
 .ret))))
def r_impl_copyTree : Nat × List RV := (25, [.c 2 1 true])

theorem c_impl_copyTree : cmpS PT PF PA (Try.prog.funcs[160]?) = some (r_impl_copyTree.1, r_impl_copyTree.2, stripK k_impl_copyTree) := by kernel_rfl

theorem h_impl_copyTree (a : TTree) (ha : wTree a < 2 ^ 31) : CallsF Try.prog 160 [.agg (sTree a)] (.agg (rTree a)) := by
  refine Prun c_impl_copyTree (by simp [r_impl_copyTree]) (by simp) ?_
  unfold k_impl_copyTree r_impl_copyTree
  obtain ⟨xs⟩ := a
  simp only [wTree] at ha
  have hlen := wL_len wNode xs
  simp [sTree]
  refine awp_loop (fun n σ => ∃ i : Nat, i ≤ xs.length ∧ n = xs.length - i ∧ σ = ⟨[(2, .one (.pt 1 2 [] 0 0)), (3, .one (.pt 1 3 [] 0 0)), (7, .one (.ar false 0 5 (xs.map sNode))), (8, aI xs.length), (9, aI i)], [(1, ⟨128, 1, [[.ar false 0 5 (xs.map sNode)]]⟩), (2, ⟨128, 1, [[.ar true 185 5 []]]⟩), (3, ⟨128, 1, [[.ar true 185 5 ((xs.take i).map rNode)]]⟩)]⟩) (xs.length) ⟨0, by simp⟩ ?_
  rintro n σ ⟨i, hi, rfl, rfl⟩
  have w1 : IntKind.i64.wrap ((i : Int) + 1) = i + 1 := wrapI (by omega) (by omega)
  by_cases h : i < xs.length
  · have hw := wL_get wNode xs i h
    rcases ea : xs[i] with ⟨x1, x2, x3, x4, x5⟩
    simp only [ea, wNode, wL_w0] at hw
    have hc := h_clone_int x5 (by omega)
    have hLn : (xs.take i).length = i := by rw [List.length_take]; omega
    have hLs : xs.take (i + 1) = xs.take i ++ [xs[i]] := List.take_succ_eq_append_getElem h
    rw [ea] at hLs
    have hbN : i + 1 ≤ 4294967296 := by omega
    generalize xs.take i = L1 at *
    simp [h, ea, sNode]
    refine callG_F hc (by simp) ?_
    simp [hbN, hLn]
    refine ⟨xs.length - (i + 1), by omega, i + 1, by omega, rfl, w1, ?_⟩
    have hm := congrArg (List.map rNode) hLs
    rw [List.map_take] at hm
    rw [hm, List.take_of_length_le (by simp [hLn])]
    simp [rNode]
  · have : i = xs.length := by omega
    subst this
    simp [rTree]
-- 125 loop.example/g00485/impl.copyRun
def k_impl_copyRun : K :=
 .seq (
  .reg none [⟨(some 1), none, .box 131 7 (.t 0)⟩,
    ⟨(some 2), none, .alc 131 7 [(.int .i64 (0)), (.int .i64 (0)), (.int .i64 (0)), (.int .i64 (0)), (.ar true 183 2 []), (.ar true 185 5 []), (.ar true 187 3 [])]⟩]) (
 .seq (
  .reg none [⟨(some 3), none, .fad 4 (.t 1)⟩,
    ⟨(some 4), none, .ld 1 false (.t 3)⟩,
    ⟨(some 5), none, .call 159 [(.t 4)]⟩,
    ⟨(some 6), none, .fad 4 (.t 1)⟩,
    ⟨none, none, .st 1 false (.t 6) (.t 5)⟩]) (
 .seq (
  .reg none [⟨(some 7), none, .fad 5 (.t 1)⟩,
    ⟨(some 8), none, .ld 1 true (.t 7)⟩,
    ⟨(some 9), none, .call 160 [(.t 8)]⟩,
    ⟨(some 10), none, .fad 5 (.t 1)⟩,
    ⟨none, none, .st 1 false (.t 10) (.t 9)⟩]) (
 .seq (
  .reg none [⟨(some 11), none, .fad 6 (.t 1)⟩,
    ⟨(some 12), none, .ld 1 false (.t 11)⟩,
    ⟨(some 13), none, .call 161 [(.t 12)]⟩,
    ⟨(some 14), none, .fad 6 (.t 1)⟩,
    ⟨none, none, .st 1 false (.t 14) (.t 13)⟩]) (
 .seq (
  .reg none [⟨(some 15), none, .ld 7 true (.t 1)⟩,
    ⟨none, none, .st 7 false (.t 2) (.t 15)⟩]) (
 .ret)))))
def r_impl_copyRun : Nat × List RV := (16, [.c 2 7 true])

theorem c_impl_copyRun : cmpS PT PF PA (Try.prog.funcs[125]?) = some (r_impl_copyRun.1, r_impl_copyRun.2, stripK k_impl_copyRun) := by kernel_rfl

theorem h_impl_copyRun (a : TRun) (ha : wRun a < 2 ^ 31) : CallsF Try.prog 125 [.agg (sRun a)] (.agg (rRun a)) := by
  refine Prun c_impl_copyRun (by simp [r_impl_copyRun]) (by simp) ?_
  unfold k_impl_copyRun r_impl_copyRun
  obtain ⟨a1, a2, a3, a4, a5, ⟨a6⟩, a7⟩ := a
  simp only [wRun] at ha
  have hl5 := wL_len wSlot a5
  have hl7 := wL_len wErr a7
  have c5 := h_clone_Slot a5 (by omega)
  have c6 := h_impl_copyTree ⟨a6⟩ (by omega)
  have c7 := h_clone_Err a7 (by omega)
  simp only [map_rs_Slot] at c5
  simp only [map_rs_Err] at c7
  simp only [sTree, rTree] at c6
  simp [sRun, sTree]
  refine callG_F c5 (by simp) ?_
  simp
  refine callG_F c6 (by simp) ?_
  simp
  refine callG_F c7 (by simp) ?_
  simp [rRun, rTree]
-- 185 loop.example/g00485/spec.l9Copy
def k_spec_l9Copy : K :=
 .seq (
  .reg none [⟨(some 1), none, .box 128 1 (.t 0)⟩,
    ⟨(some 2), none, .alc 128 1 [(.ar true 185 5 [])]⟩]) (
 .seq (
  .reg none [⟨(some 6), none, .bld false [(.ar true 185 5 [])] []⟩,
    ⟨(some 3), none, .alc 128 1 [(.ar true 185 5 [])]⟩,
    ⟨none, none, .st 1 false (.t 3) (.t 6)⟩]) (
 .seq (
  .seq (
   .reg none [⟨(some 4), none, .asn (.c (.int .i64 (0)))⟩]) (
  .block 0 (
   .loop (some ([1, 2, 3, 4], [1, 2, 3, 4, 1000])) (
    .seq (
     .seq (
      .reg none [⟨(some 7), none, .mv (.t 4)⟩,
        ⟨(some 8), none, .fad 0 (.t 1)⟩,
        ⟨(some 9), none, .ld 1 false (.t 8)⟩,
        ⟨(some 10), none, .len (.t 9)⟩,
        ⟨(some 11), none, .bin .lss (.t 7) (.t 10)⟩]) (
     .cond (.t 11) (
      .skip) (
      .exit 0))) (
    .seq (
     .block 1 (
      .seq (
       .reg none [⟨(some 14), none, .fad 0 (.t 1)⟩,
         ⟨(some 15), none, .ld 1 false (.t 14)⟩,
         ⟨(some 16), none, .mv (.t 4)⟩,
         ⟨(some 17), none, .iad 5 (.t 15) (.t 16)⟩,
         ⟨(some 18), none, .ld 5 true (.t 17)⟩,
         ⟨(some 5), none, .alc 185 5 [(.int .i64 (0)), (.int .i64 (0)), (.int .i64 (0)), (.int .i64 (0)), (.ar true 3 1 [])]⟩,
         ⟨none, none, .st 5 false (.t 5) (.t 18)⟩]) (
      .seq (
       .reg none [⟨(some 19), none, .bls 3 1 false []⟩,
         ⟨(some 20), none, .fad 0 (.t 1)⟩,
         ⟨(some 21), none, .ld 1 false (.t 20)⟩,
         ⟨(some 22), none, .mv (.t 4)⟩,
         ⟨(some 23), none, .iad 5 (.t 21) (.t 22)⟩,
         ⟨(some 24), none, .fad 4 (.t 23)⟩,
         ⟨(some 25), none, .ld 1 false (.t 24)⟩,
         ⟨(some 26), none, .app 3 1 8 false (.t 19) (.t 25)⟩,
         ⟨(some 27), none, .fad 4 (.t 5)⟩,
         ⟨none, none, .st 1 false (.t 27) (.t 26)⟩]) (
      .reg none [⟨(some 28), none, .fad 0 (.t 3)⟩,
        ⟨(some 29), none, .ld 1 false (.t 28)⟩,
        ⟨(some 30), none, .ld 5 true (.t 5)⟩,
        ⟨(some 31), none, .bls 185 5 false [(.t 30)]⟩,
        ⟨(some 32), none, .app 185 5 56 false (.t 29) (.t 31)⟩,
        ⟨(some 33), none, .fad 0 (.t 3)⟩,
        ⟨none, none, .st 1 false (.t 33) (.t 32)⟩])))) (
    .reg none [⟨(some 12), none, .mv (.t 4)⟩,
      ⟨(some 13), none, .bin .add (.t 12) (.c (.int .i64 (1)))⟩,
      ⟨(some 4), none, .asn (.t 13)⟩])))))) (
 .seq (
  .reg none [⟨(some 34), none, .ld 1 true (.t 3)⟩,
    ⟨none, none, .st 1 false (.t 2) (.t 34)⟩]) (
 .ret))))
def r_spec_l9Copy : Nat × List RV := (35, [.c 2 1 true])

theorem c_spec_l9Copy : cmpS PT PF PA (Try.prog.funcs[185]?) = some (r_spec_l9Copy.1, r_spec_l9Copy.2, stripK k_spec_l9Copy) := by kernel_rfl

theorem h_spec_l9Copy (a : TTree) (ha : wTree a < 2 ^ 31) : CallsF Try.prog 185 [.agg (sTree a)] (.agg (rTree a)) := by
  refine Prun c_spec_l9Copy (by simp [r_spec_l9Copy]) (by simp) ?_
  unfold k_spec_l9Copy r_spec_l9Copy
  obtain ⟨xs⟩ := a
  simp only [wTree] at ha
  have hlen := wL_len wNode xs
  simp [sTree]
  refine awp_loop (fun n σ => ∃ i : Nat, i ≤ xs.length ∧ n = xs.length - i ∧ σ = ⟨[(1, .one (.pt 1 1 [] 0 0)), (2, .one (.pt 1 2 [] 0 0)), (3, .one (.pt 1 3 [] 0 0)), (4, aI i)], [(1, ⟨128, 1, [[.ar false 0 5 (xs.map sNode)]]⟩), (2, ⟨128, 1, [[.ar true 185 5 []]]⟩), (3, ⟨128, 1, [[.ar true 185 5 ((xs.take i).map rNode)]]⟩)]⟩) (xs.length) ⟨0, by simp⟩ ?_
  rintro n σ ⟨i, hi, rfl, rfl⟩
  have w1 : IntKind.i64.wrap ((i : Int) + 1) = i + 1 := wrapI (by omega) (by omega)
  by_cases h : i < xs.length
  · have hw := wL_get wNode xs i h
    rcases ea : xs[i] with ⟨x1, x2, x3, x4, x5⟩
    simp only [ea, wNode, wL_w0] at hw
    have hb5 : x5.length ≤ 4294967296 := by omega
    have hLn : (xs.take i).length = i := by rw [List.length_take]; omega
    have hLs : xs.take (i + 1) = xs.take i ++ [xs[i]] := List.take_succ_eq_append_getElem h
    rw [ea] at hLs
    have hbN : i + 1 ≤ 4294967296 := by omega
    generalize xs.take i = L1 at *
    simp [h, ea, sNode, hbN, hLn, hb5]
    refine ⟨xs.length - (i + 1), by omega, i + 1, by omega, rfl, w1, ?_⟩
    have hm := congrArg (List.map rNode) hLs
    rw [List.map_take] at hm
    rw [hm, List.take_of_length_le (by simp [hLn])]
    simp [rNode]
  · have : i = xs.length := by omega
    subst this
    simp [rTree]
-- 157 loop.example/g00485/spec.l10Copy
def k_spec_l10Copy : K :=
 .seq (
  .reg none [⟨(some 1), none, .box 131 7 (.t 0)⟩,
    ⟨(some 2), none, .alc 131 7 [(.int .i64 (0)), (.int .i64 (0)), (.int .i64 (0)), (.int .i64 (0)), (.ar true 183 2 []), (.ar true 185 5 []), (.ar true 187 3 [])]⟩]) (
 .seq (
  .reg none [⟨(some 4), none, .ld 7 true (.t 1)⟩,
    ⟨(some 3), none, .alc 131 7 [(.int .i64 (0)), (.int .i64 (0)), (.int .i64 (0)), (.int .i64 (0)), (.ar true 183 2 []), (.ar true 185 5 []), (.ar true 187 3 [])]⟩,
    ⟨none, none, .st 7 false (.t 3) (.t 4)⟩]) (
 .seq (
  .reg none [⟨(some 5), none, .bls 183 2 false []⟩,
    ⟨(some 6), none, .fad 4 (.t 1)⟩,
    ⟨(some 7), none, .ld 1 false (.t 6)⟩,
    ⟨(some 8), none, .app 183 2 16 false (.t 5) (.t 7)⟩,
    ⟨(some 9), none, .fad 4 (.t 3)⟩,
    ⟨none, none, .st 1 false (.t 9) (.t 8)⟩]) (
 .seq (
  .reg none [⟨(some 10), none, .fad 5 (.t 1)⟩,
    ⟨(some 11), none, .ld 1 true (.t 10)⟩,
    ⟨(some 12), none, .call 185 [(.t 11)]⟩,
    ⟨(some 13), none, .fad 5 (.t 3)⟩,
    ⟨none, none, .st 1 false (.t 13) (.t 12)⟩]) (
 .seq (
  .reg none [⟨(some 14), none, .bls 187 3 false []⟩,
    ⟨(some 15), none, .fad 6 (.t 1)⟩,
    ⟨(some 16), none, .ld 1 false (.t 15)⟩,
    ⟨(some 17), none, .app 187 3 24 false (.t 14) (.t 16)⟩,
    ⟨(some 18), none, .fad 6 (.t 3)⟩,
    ⟨none, none, .st 1 false (.t 18) (.t 17)⟩]) (
 .seq (
  .reg none [⟨(some 19), none, .ld 7 true (.t 3)⟩,
    ⟨none, none, .st 7 false (.t 2) (.t 19)⟩]) (
 .ret))))))
def r_spec_l10Copy : Nat × List RV := (20, [.c 2 7 true])

theorem c_spec_l10Copy : cmpS PT PF PA (Try.prog.funcs[157]?) = some (r_spec_l10Copy.1, r_spec_l10Copy.2, stripK k_spec_l10Copy) := by kernel_rfl

theorem h_spec_l10Copy (a : TRun) (ha : wRun a < 2 ^ 31) : CallsF Try.prog 157 [.agg (sRun a)] (.agg (rRun a)) := by
  refine Prun c_spec_l10Copy (by simp [r_spec_l10Copy]) (by simp) ?_
  unfold k_spec_l10Copy r_spec_l10Copy
  obtain ⟨a1, a2, a3, a4, a5, ⟨a6⟩, a7⟩ := a
  simp only [wRun] at ha
  have hl5 := wL_len wSlot a5
  have hl7 := wL_len wErr a7
  have hb5 : a5.length ≤ 4294967296 := by omega
  have hb7 : a7.length ≤ 4294967296 := by omega
  have c6 := h_spec_l9Copy ⟨a6⟩ (by omega)
  simp only [sTree, rTree] at c6
  simp [sRun, sTree, hb5]
  refine callG_F c6 (by simp) ?_
  simp [hb7, rRun, rTree]
end Go.Am
-- Cl_Outcome
namespace Go.Am
open Go.Proofs
set_option maxHeartbeats 4000000
set_option maxRecDepth 100000
attribute [-simp] rErr_len sErr_len shr_rErr shr_sErr shrs_rErr shrs_sErr noSh_rErr mErr_wr mErr_n rSlot_len sSlot_len shr_rSlot shr_sSlot shrs_rSlot shrs_sSlot noSh_rSlot mSlot_wr mSlot_n rNode_len sNode_len shr_rNode shr_sNode shrs_rNode shrs_sNode noSh_rNode mNode_wr mNode_n rTree_len sTree_len shr_rTree shr_sTree shrs_rTree shrs_sTree noSh_rTree mTree_wr mTree_n rRun_len sRun_len shr_rRun shr_sRun shrs_rRun shrs_sRun noSh_rRun mRun_wr mRun_n rJob_len sJob_len shr_rJob shr_sJob shrs_rJob shrs_sJob noSh_rJob mJob_wr mJob_n rTenant_len sTenant_len shr_rTenant shr_sTenant shrs_rTenant shrs_sTenant noSh_rTenant mTenant_wr mTenant_n map_rs_Slot map_rs_Err
def renCl_Outcome : Shelf.Ren := ⟨fun _ => 126, fun k => if k = 9 then 102 else if k = 24 then 23 else k, fun k => k⟩
theorem laidCl_Outcome : AmL.LCl Try.prog renCl_Outcome 3 where
  mixed := by kernel_rfl
  f16 := ⟨((Try.prog.funcs[126]?).map (·.name)).getD "", by kernel_rfl, by kernel_rfl⟩
  t4 := Try.underlying4
  a4 := Try.isAgg4
  z4 := Try.sizeOf4
  z9 := Try.sizeOf102
  t24 := Try.underlying23
  a24 := Try.isAgg23
  z24 := Try.sizeOf23
  i9 := by
    obtain ⟨i, h1, h2, h3, h4⟩ := info_parts (show (Try.prog.info? 102).map (fun i => (i.zero, i.size, i.bytes)) = some (some (.agg #[.int .i64 0, .int .i64 0, .string ⟨#[]⟩]), 3, 32) by kernel_rfl)
    exact ⟨i, _, h1, h2, h3, by omega, rfl⟩
  he := by decide
theorem h_clone_Outcome (xs : List TOutcome) (hn : xs.length ≤ 4294967296) : CallsF Try.prog 126 [.one (.ar false 0 3 (xs.map rOutcome))] (.one (.ar true 102 3 (xs.map rOutcome))) :=
  clone_callsF laidCl_Outcome (xs.map rOutcome) (by simpa using hn)
end Go.Am
-- Copies2
namespace Go.Am
open Go.Proofs
set_option maxHeartbeats 4000000
set_option maxRecDepth 100000
@[simp] theorem map_rs_Outcome (xs : List TOutcome) : xs.map rOutcome = xs.map sOutcome := rfl
-- 69 loop.example/g00485/impl.copyTenant
def k_impl_copyTenant : K :=
 .seq (
  .reg none [⟨(some 1), none, .box 25 10 (.t 0)⟩,
    ⟨(some 2), none, .alc 25 10 [(.int .i64 (0)), (.int .i64 (0)), (.int .i64 (0)), (.int .i64 (0)), (.int .i64 (0)), (.int .i64 (0)), (.int .i64 (0)), (.int .i64 (0)), (.ar true 133 10 []), (.ar true 102 3 [])]⟩]) (
 .seq (
  .reg none [⟨(some 6), none, .ld 10 true (.t 1)⟩,
    ⟨(some 3), none, .alc 25 10 [(.int .i64 (0)), (.int .i64 (0)), (.int .i64 (0)), (.int .i64 (0)), (.int .i64 (0)), (.int .i64 (0)), (.int .i64 (0)), (.int .i64 (0)), (.ar true 133 10 []), (.ar true 102 3 [])]⟩,
    ⟨none, none, .st 10 false (.t 3) (.t 6)⟩]) (
 .seq (
  .reg none [⟨(some 7), none, .fad 8 (.t 3)⟩,
    ⟨none, none, .st 1 false (.t 7) (.c (.ar true 133 10 []))⟩]) (
 .seq (
  .seq (
   .reg none [⟨(some 8), none, .fad 8 (.t 1)⟩,
     ⟨(some 9), none, .ld 1 false (.t 8)⟩,
     ⟨(some 10), none, .len (.t 9)⟩,
     ⟨(some 11), none, .mv (.c (.int .i64 (0)))⟩]) (
  .block 0 (
   .loop (some ([1, 2, 3, 9, 10, 11], [1, 2, 3, 1000])) (
    .seq (
     .reg none [⟨(some 12), none, .bin .lss (.t 11) (.t 10)⟩]) (
    .seq (
     .cond (.t 12) (
      .skip) (
      .exit 0)) (
    .seq (
     .block 1 (
      .seq (
       .reg none [⟨(some 13), none, .iad 10 (.t 9) (.t 11)⟩,
         ⟨(some 14), none, .ld 10 true (.t 13)⟩,
         ⟨(some 5), none, .alc 133 10 [(.int .i64 (0)), (.int .i64 (0)), (.ar true 3 1 []), (.int .i64 (0)), (.int .i64 (0)), (.int .i64 (0)), (.int .i64 (0)), (.ar true 183 2 []), (.ar true 185 5 []), (.ar true 187 3 [])]⟩,
         ⟨none, none, .st 10 false (.t 5) (.t 14)⟩]) (
      .seq (
       .reg none [⟨(some 15), none, .fad 2 (.t 5)⟩,
         ⟨(some 16), none, .ld 1 false (.t 15)⟩,
         ⟨(some 17), none, .call 124 [(.t 16)]⟩,
         ⟨(some 18), none, .fad 2 (.t 5)⟩,
         ⟨none, none, .st 1 false (.t 18) (.t 17)⟩]) (
      .seq (
       .reg none [⟨(some 19), none, .fad 3 (.t 5)⟩,
         ⟨(some 20), none, .ld 7 true (.t 19)⟩,
         ⟨(some 21), none, .call 125 [(.t 20)]⟩,
         ⟨(some 22), none, .fad 3 (.t 5)⟩,
         ⟨none, none, .st 7 false (.t 22) (.t 21)⟩]) (
      .reg none [⟨(some 23), none, .fad 8 (.t 3)⟩,
        ⟨(some 24), none, .ld 1 false (.t 23)⟩,
        ⟨(some 25), none, .ld 10 true (.t 5)⟩,
        ⟨(some 26), none, .bls 133 10 false [(.t 25)]⟩,
        ⟨(some 27), none, .app 133 10 144 false (.t 24) (.t 26)⟩,
        ⟨(some 28), none, .fad 8 (.t 3)⟩,
        ⟨none, none, .st 1 false (.t 28) (.t 27)⟩]))))) (
    .reg none [⟨(some 29), none, .bin .add (.t 11) (.c (.int .i64 (1)))⟩,
      ⟨(some 11), none, .mv (.t 29)⟩]))))))) (
 .seq (
  .reg none [⟨(some 30), none, .fad 9 (.t 1)⟩,
    ⟨(some 31), none, .ld 1 false (.t 30)⟩,
    ⟨(some 32), none, .call 126 [(.t 31)]⟩,
    ⟨(some 33), none, .fad 9 (.t 3)⟩,
    ⟨none, none, .st 1 false (.t 33) (.t 32)⟩]) (
 .seq (
  .reg none [⟨(some 34), none, .ld 10 true (.t 3)⟩,
    ⟨none, none, .st 10 false (.t 2) (.t 34)⟩]) (
 .ret))))))
def r_impl_copyTenant : Nat × List RV := (35, [.c 2 10 true])

theorem c_impl_copyTenant : cmpS PT PF PA (Try.prog.funcs[69]?) = some (r_impl_copyTenant.1, r_impl_copyTenant.2, stripK k_impl_copyTenant) := by kernel_rfl

theorem h_impl_copyTenant (a : TTenant) (ha : wTenant a < 2 ^ 31) : CallsF Try.prog 69 [.agg (sTenant a)] (.agg (rTenant a)) := by
  refine Prun c_impl_copyTenant (by simp [r_impl_copyTenant]) (by simp) ?_
  unfold k_impl_copyTenant r_impl_copyTenant
  obtain ⟨a0, a1, a2, a3, a4, a5, a6, a7, xs, a9⟩ := a
  simp only [wTenant] at ha
  have hlen := wL_len wJob xs
  have hl9 := wL_len wOutcome a9
  have c9 := h_clone_Outcome a9 (by omega)
  simp only [map_rs_Outcome] at c9
  simp [sTenant]
  refine awp_loop (fun n σ => ∃ i : Nat, i ≤ xs.length ∧ n = xs.length - i ∧ σ = ⟨[(1, .one (.pt 10 1 [] 0 0)), (2, .one (.pt 10 2 [] 0 0)), (3, .one (.pt 10 3 [] 0 0)), (9, .one (.ar false 0 10 (xs.map sJob))), (10, aI xs.length), (11, aI i)],
    [(1, ⟨25, 10, [[cI a0, cI a1, cI a2, cI a3, cI a4, cI a5, cI a6, cI a7, .ar false 0 10 (xs.map sJob), .ar false 0 3 (a9.map sOutcome)]]⟩),
     (2, ⟨25, 10, [zTenant]⟩),
     (3, ⟨25, 10, [[cI a0, cI a1, cI a2, cI a3, cI a4, cI a5, cI a6, cI a7, .ar true 133 10 ((xs.take i).map rJob), .ar false 0 3 (a9.map sOutcome)]]⟩)]⟩) (xs.length) ⟨0, by simp [zTenant]⟩ ?_
  rintro n σ ⟨i, hi, rfl, rfl⟩
  have w1 : IntKind.i64.wrap ((i : Int) + 1) = i + 1 := wrapI (by omega) (by omega)
  by_cases h : i < xs.length
  · have hw := wL_get wJob xs i h
    rcases ea : xs[i] with ⟨x1, x2, x3, x4⟩
    simp only [ea, wJob, wL_w0] at hw
    have hc := h_clone_int x3 (by omega)
    have hr := h_impl_copyRun x4 (by omega)
    have hLn : (xs.take i).length = i := by rw [List.length_take]; omega
    have hLs : xs.take (i + 1) = xs.take i ++ [xs[i]] := List.take_succ_eq_append_getElem h
    rw [ea] at hLs
    have hbN : i + 1 ≤ 4294967296 := by omega
    generalize xs.take i = L1 at *
    simp only [sRun, rRun] at hr
    simp [h, ea, sJob, sRun]
    refine callG_F hc (by simp) ?_
    simp [hbN, hLn]
    refine callG_F hr (by simp) ?_
    simp [hbN, hLn]
    refine ⟨xs.length - (i + 1), by omega, i + 1, by omega, rfl, w1, ?_⟩
    have hm := congrArg (List.map rJob) hLs
    rw [List.map_take] at hm
    rw [hm, List.take_of_length_le (by simp [hLn])]
    simp [rJob, rRun]
  · have : i = xs.length := by omega
    subst this
    simp [zTenant]
    refine callG_F c9 (by simp) ?_
    simp [rTenant, zTenant]
-- 121 loop.example/g00485/spec.l14Job
def k_spec_l14Job : K :=
 .seq (
  .reg none [⟨(some 1), none, .box 133 10 (.t 0)⟩,
    ⟨(some 2), none, .alc 133 10 [(.int .i64 (0)), (.int .i64 (0)), (.ar true 3 1 []), (.int .i64 (0)), (.int .i64 (0)), (.int .i64 (0)), (.int .i64 (0)), (.ar true 183 2 []), (.ar true 185 5 []), (.ar true 187 3 [])]⟩]) (
 .seq (
  .reg none [⟨(some 3), none, .bls 3 1 false []⟩,
    ⟨(some 4), none, .fad 2 (.t 1)⟩,
    ⟨(some 5), none, .ld 1 false (.t 4)⟩,
    ⟨(some 6), none, .app 3 1 8 false (.t 3) (.t 5)⟩,
    ⟨(some 7), none, .fad 2 (.t 1)⟩,
    ⟨none, none, .st 1 false (.t 7) (.t 6)⟩]) (
 .seq (
  .reg none [⟨(some 8), none, .fad 3 (.t 1)⟩,
    ⟨(some 9), none, .ld 7 true (.t 8)⟩,
    ⟨(some 10), none, .call 157 [(.t 9)]⟩,
    ⟨(some 11), none, .fad 3 (.t 1)⟩,
    ⟨none, none, .st 7 false (.t 11) (.t 10)⟩]) (
 .seq (
  .reg none [⟨(some 12), none, .ld 10 true (.t 1)⟩,
    ⟨none, none, .st 10 false (.t 2) (.t 12)⟩]) (
 .ret))))
def r_spec_l14Job : Nat × List RV := (13, [.c 2 10 true])

theorem c_spec_l14Job : cmpS PT PF PA (Try.prog.funcs[121]?) = some (r_spec_l14Job.1, r_spec_l14Job.2, stripK k_spec_l14Job) := by kernel_rfl

theorem h_spec_l14Job (a : TJob) (ha : wJob a < 2 ^ 31) : CallsF Try.prog 121 [.agg (sJob a)] (.agg (rJob a)) := by
  refine Prun c_spec_l14Job (by simp [r_spec_l14Job]) (by simp) ?_
  unfold k_spec_l14Job r_spec_l14Job
  obtain ⟨x1, x2, x3, x4⟩ := a
  simp only [wJob, wL_w0] at ha
  have hb : x3.length ≤ 4294967296 := by omega
  have hr := h_spec_l10Copy x4 (by omega)
  simp only [sRun, rRun] at hr
  simp [sJob, sRun, hb]
  refine callG_F hr (by simp) ?_
  simp [rJob, rRun]
-- 66 loop.example/g00485/spec.l14Copy
def k_spec_l14Copy : K :=
 .seq (
  .reg none [⟨(some 1), none, .box 25 10 (.t 0)⟩,
    ⟨(some 2), none, .alc 25 10 [(.int .i64 (0)), (.int .i64 (0)), (.int .i64 (0)), (.int .i64 (0)), (.int .i64 (0)), (.int .i64 (0)), (.int .i64 (0)), (.int .i64 (0)), (.ar true 133 10 []), (.ar true 102 3 [])]⟩]) (
 .seq (
  .reg none [⟨(some 5), none, .ld 10 true (.t 1)⟩,
    ⟨(some 3), none, .alc 25 10 [(.int .i64 (0)), (.int .i64 (0)), (.int .i64 (0)), (.int .i64 (0)), (.int .i64 (0)), (.int .i64 (0)), (.int .i64 (0)), (.int .i64 (0)), (.ar true 133 10 []), (.ar true 102 3 [])]⟩,
    ⟨none, none, .st 10 false (.t 3) (.t 5)⟩]) (
 .seq (
  .reg none [⟨(some 6), none, .fad 8 (.t 3)⟩,
    ⟨none, none, .st 1 false (.t 6) (.c (.ar true 133 10 []))⟩]) (
 .seq (
  .seq (
   .reg none [⟨(some 4), none, .asn (.c (.int .i64 (0)))⟩]) (
  .block 0 (
   .loop (some ([1, 2, 3, 4], [1, 2, 3, 4, 1000])) (
    .seq (
     .seq (
      .reg none [⟨(some 7), none, .mv (.t 4)⟩,
        ⟨(some 8), none, .fad 8 (.t 1)⟩,
        ⟨(some 9), none, .ld 1 false (.t 8)⟩,
        ⟨(some 10), none, .len (.t 9)⟩,
        ⟨(some 11), none, .bin .lss (.t 7) (.t 10)⟩]) (
     .cond (.t 11) (
      .skip) (
      .exit 0))) (
    .seq (
     .block 1 (
      .drw none 0 [⟨(some 14), none, .fad 8 (.t 3)⟩,
        ⟨(some 15), none, .ld 1 false (.t 14)⟩,
        ⟨(some 16), none, .fad 8 (.t 1)⟩,
        ⟨(some 17), none, .ld 1 false (.t 16)⟩,
        ⟨(some 18), none, .mv (.t 4)⟩,
        ⟨(some 19), none, .iad 10 (.t 17) (.t 18)⟩,
        ⟨(some 20), none, .ld 10 true (.t 19)⟩,
        ⟨(some 21), none, .call 121 [(.t 20)]⟩,
        ⟨(some 22), none, .bls 133 10 false [(.t 21)]⟩,
        ⟨(some 23), none, .app 133 10 144 false (.t 15) (.t 22)⟩,
        ⟨(some 24), none, .fad 8 (.t 3)⟩,
        ⟨none, none, .st 1 false (.t 24) (.t 23)⟩])) (
    .reg none [⟨(some 12), none, .mv (.t 4)⟩,
      ⟨(some 13), none, .bin .add (.t 12) (.c (.int .i64 (1)))⟩,
      ⟨(some 4), none, .asn (.t 13)⟩])))))) (
 .seq (
  .reg none [⟨(some 25), none, .bls 102 3 false []⟩,
    ⟨(some 26), none, .fad 9 (.t 1)⟩,
    ⟨(some 27), none, .ld 1 false (.t 26)⟩,
    ⟨(some 28), none, .app 102 3 32 false (.t 25) (.t 27)⟩,
    ⟨(some 29), none, .fad 9 (.t 3)⟩,
    ⟨none, none, .st 1 false (.t 29) (.t 28)⟩]) (
 .seq (
  .reg none [⟨(some 30), none, .ld 10 true (.t 3)⟩,
    ⟨none, none, .st 10 false (.t 2) (.t 30)⟩]) (
 .ret))))))
def r_spec_l14Copy : Nat × List RV := (31, [.c 2 10 true])

theorem c_spec_l14Copy : cmpS PT PF PA (Try.prog.funcs[66]?) = some (r_spec_l14Copy.1, r_spec_l14Copy.2, stripK k_spec_l14Copy) := by kernel_rfl

theorem h_spec_l14Copy (a : TTenant) (ha : wTenant a < 2 ^ 31) : CallsF Try.prog 66 [.agg (sTenant a)] (.agg (rTenant a)) := by
  refine Prun c_spec_l14Copy (by simp [r_spec_l14Copy]) (by simp) ?_
  unfold k_spec_l14Copy r_spec_l14Copy
  obtain ⟨a0, a1, a2, a3, a4, a5, a6, a7, xs, a9⟩ := a
  simp only [wTenant] at ha
  have hlen := wL_len wJob xs
  have hl9 := wL_len wOutcome a9
  have hb9 : a9.length ≤ 4294967296 := by omega
  simp [sTenant]
  refine awp_loop (fun n σ => ∃ i : Nat, i ≤ xs.length ∧ n = xs.length - i ∧ σ = ⟨[(1, .one (.pt 10 1 [] 0 0)), (2, .one (.pt 10 2 [] 0 0)), (3, .one (.pt 10 3 [] 0 0)), (4, aI i)],
    [(1, ⟨25, 10, [[cI a0, cI a1, cI a2, cI a3, cI a4, cI a5, cI a6, cI a7, .ar false 0 10 (xs.map sJob), .ar false 0 3 (a9.map sOutcome)]]⟩),
     (2, ⟨25, 10, [zTenant]⟩),
     (3, ⟨25, 10, [[cI a0, cI a1, cI a2, cI a3, cI a4, cI a5, cI a6, cI a7, .ar true 133 10 ((xs.take i).map rJob), .ar false 0 3 (a9.map sOutcome)]]⟩)]⟩) (xs.length) ⟨0, by simp [zTenant]⟩ ?_
  rintro n σ ⟨i, hi, rfl, rfl⟩
  have w1 : IntKind.i64.wrap ((i : Int) + 1) = i + 1 := wrapI (by omega) (by omega)
  by_cases h : i < xs.length
  · have hw := wL_get wJob xs i h
    have hr := h_spec_l14Job xs[i] (by omega)
    have hLn : (xs.take i).length = i := by rw [List.length_take]; omega
    have hLs : xs.take (i + 1) = xs.take i ++ [xs[i]] := List.take_succ_eq_append_getElem h
    have hbN : i + 1 ≤ 4294967296 := by omega
    generalize xs.take i = L1 at *
    simp only [sJob, rJob] at hr
    simp [h, sJob]
    refine callG_F hr (by simp) ?_
    simp [hbN, hLn]
    refine ⟨xs.length - (i + 1), by omega, i + 1, by omega, rfl, w1, ?_⟩
    have hm := congrArg (List.map rJob) hLs
    rw [List.map_take] at hm
    rw [hm, List.take_of_length_le (by simp [hLn])]
    simp [rJob]
  · have : i = xs.length := by omega
    subst this
    simp [zTenant, hb9, rTenant]
end Go.Am
-- De_Outcome
namespace Go.Am
open Go.Proofs
set_option maxHeartbeats 4000000
set_option maxRecDepth 100000
attribute [-simp] rErr_len sErr_len shr_rErr shr_sErr shrs_rErr shrs_sErr noSh_rErr mErr_wr mErr_n rSlot_len sSlot_len shr_rSlot shr_sSlot shrs_rSlot shrs_sSlot noSh_rSlot mSlot_wr mSlot_n rNode_len sNode_len shr_rNode shr_sNode shrs_rNode shrs_sNode noSh_rNode mNode_wr mNode_n rTree_len sTree_len shr_rTree shr_sTree shrs_rTree shrs_sTree noSh_rTree mTree_wr mTree_n rRun_len sRun_len shr_rRun shr_sRun shrs_rRun shrs_sRun noSh_rRun mRun_wr mRun_n rJob_len sJob_len shr_rJob shr_sJob shrs_rJob shrs_sJob noSh_rJob mJob_wr mJob_n rTenant_len sTenant_len shr_rTenant shr_sTenant shrs_rTenant shrs_sTenant noSh_rTenant mTenant_wr mTenant_n map_rs_Slot map_rs_Err map_rs_Outcome
def renDe_Outcome : Shelf.Ren := ⟨fun _ => 70, fun k => if k = 9 then 102 else if k = 24 then 23 else k, fun k => k⟩
theorem laidDe_Outcome : AmL.LDel Try.prog renDe_Outcome 3 (.agg #[.int .i64 0, .int .i64 0, .string ⟨#[]⟩]) where
  mixed := by kernel_rfl
  f24 := ⟨((Try.prog.funcs[70]?).map (·.name)).getD "", by kernel_rfl, by kernel_rfl⟩
  t0 := Try.underlying0
  a0 := Try.isAgg0
  z0 := Try.sizeOf0
  t3 := Try.underlying3
  a3 := Try.isAgg3
  z3 := Try.sizeOf3
  t4 := Try.underlying4
  a4 := Try.isAgg4
  z4 := Try.sizeOf4
  z9 := Try.sizeOf102
  t24 := Try.underlying23
  a24 := Try.isAgg23
  z24 := Try.sizeOf23
  v9 := fun w => Try.zeroValue102 w
  i9 := by
    obtain ⟨i, h1, h2, h3, h4⟩ := info_parts (show (Try.prog.info? 102).map (fun i => (i.zero, i.size, i.bytes)) = some (some (.agg #[.int .i64 0, .int .i64 0, .string ⟨#[]⟩]), 3, 32) by kernel_rfl)
    exact ⟨i, h1, h3⟩
  zc := rfl
  z1 := by decide
  he := by decide
theorem h_del_Outcome (xs : List TOutcome) (i : Nat) (hi : i < xs.length) : CallsF Try.prog 70 [.one (.ar true 102 3 (xs.map rOutcome)), .one (.int .i64 i), .one (.int .i64 ((i : Int) + 1))] (.one (.ar true 102 3 ((xs.take i ++ xs.drop (i + 1)).map rOutcome))) := by
  have h := del_callsF laidDe_Outcome (xs.map rOutcome) i (by simpa using hi)
  simpa [renDe_Outcome] using h
end Go.Am
-- Told
namespace Go.Am
open Go.Proofs
set_option maxHeartbeats 4000000
set_option maxRecDepth 100000
def runLen : List TOutcome → Int → Nat
  | [], _ => 0
  | o :: r, d => if o.ticket = d then runLen r (d + 1) + 1 else 0
theorem runLen_le : ∀ (xs : List TOutcome) (d : Int), runLen xs d ≤ xs.length
  | [], _ => Nat.le_refl _
  | o :: r, d => by
    simp only [runLen]
    split
    · have := runLen_le r (d + 1); simp; omega
    · omega
/-- How far it goes from place j on. -/
def leftLen (xs : List TOutcome) (d : Int) (j : Nat) : Nat := runLen (xs.drop j) (d + j)
theorem leftLen_step {xs : List TOutcome} {d : Int} {j : Nat} (h : j < xs.length) : leftLen xs d j = if xs[j].ticket = d + j then leftLen xs d (j + 1) + 1 else 0 := by
  unfold leftLen
  rw [List.drop_eq_getElem_cons h]
  simp only [runLen]
  rw [show d + (j : Int) + 1 = d + ((j + 1 : Nat) : Int) by omega]
theorem leftLen_end {xs : List TOutcome} {d : Int} {j : Nat} (h : ¬ j < xs.length) : leftLen xs d j = 0 := by
  unfold leftLen
  rw [List.drop_eq_nil_of_le (by omega)]
  rfl
def toldN (t : TTenant) : Nat := runLen t.out t.due
def toldL (t : TTenant) : List TOutcome := if tenantOk t then t.out.take (toldN t) else []
def toldT (t : TTenant) : TTenant := if tenantOk t then { t with due := t.due + toldN t, out := t.out.drop (toldN t) } else t
theorem dueOk {t : TTenant} (h : tenantOk t = true) : 0 ≤ t.due ∧ t.due ≤ 1000000 := by
  simp only [tenantOk, hdC, Bool.and_eq_true] at h
  have := h.1.1.1.1.2.1.1.2
  rw [inr_iff] at this
  exact this
theorem affO : ∀ xs : List TOutcome, affRows (xs.map sOutcome) = false
  | [] => rfl
  | ⟨x, y, z⟩ :: xs => by simp [affRows, sOutcome, affO xs]
-- 28 loop.example/g00485/spec.Told
def k_spec_Told : K :=
 .seq (
  .reg none [⟨(some 1), none, .box 25 10 (.t 0)⟩,
    ⟨(some 2), none, .asn (.c (.ar true 102 3 []))⟩,
    ⟨(some 3), none, .alc 25 10 [(.int .i64 (0)), (.int .i64 (0)), (.int .i64 (0)), (.int .i64 (0)), (.int .i64 (0)), (.int .i64 (0)), (.int .i64 (0)), (.int .i64 (0)), (.ar true 133 10 []), (.ar true 102 3 [])]⟩]) (
 .seq (
  .reg none [⟨(some 6), none, .bls 102 3 false []⟩,
    ⟨(some 4), none, .asn (.t 6)⟩]) (
 .seq (
  .reg none [⟨(some 7), none, .ld 10 true (.t 1)⟩,
    ⟨(some 8), none, .call 66 [(.t 7)]⟩,
    ⟨(some 5), none, .alc 25 10 [(.int .i64 (0)), (.int .i64 (0)), (.int .i64 (0)), (.int .i64 (0)), (.int .i64 (0)), (.int .i64 (0)), (.int .i64 (0)), (.int .i64 (0)), (.ar true 133 10 []), (.ar true 102 3 [])]⟩,
    ⟨none, none, .st 10 false (.t 5) (.t 8)⟩]) (
 .seq (
  .seq (
   .reg none [⟨(some 9), none, .ld 10 true (.t 1)⟩,
     ⟨(some 10), none, .call 47 [(.t 9)]⟩,
     ⟨(some 11), none, .not (.t 10)⟩]) (
  .cond (.t 11) (
   .seq (
    .drw none 0 [⟨(some 12), none, .mv (.t 4)⟩,
      ⟨(some 13), none, .ld 10 true (.t 5)⟩,
      ⟨(some 2), none, .asn (.t 12)⟩,
      ⟨none, none, .st 10 false (.t 3) (.t 13)⟩]) (
   .ret)) (
   .skip))) (
 .seq (
  .block 0 (
   .loop (some ([3, 4, 5], [3, 4, 5, 1000])) (
    .seq (
     .seq (
      .drw none 14 [⟨(some 14), none, .fad 9 (.t 5)⟩,
        ⟨(some 15), none, .ld 1 false (.t 14)⟩,
        ⟨(some 16), none, .len (.t 15)⟩,
        ⟨(some 17), none, .bin .gtr (.t 16) (.c (.int .i64 (0)))⟩,
        ⟨(some 18), none, .mv (.t 17)⟩,
        ⟨(some 19), (some (18, true)), .fad 9 (.t 5)⟩,
        ⟨(some 20), (some (18, true)), .ld 1 false (.t 19)⟩,
        ⟨(some 21), (some (18, true)), .iad 3 (.t 20) (.c (.int .i64 (0)))⟩,
        ⟨(some 22), (some (18, true)), .fad 0 (.t 21)⟩,
        ⟨(some 23), (some (18, true)), .ld 1 false (.t 22)⟩,
        ⟨(some 24), (some (18, true)), .fad 7 (.t 5)⟩,
        ⟨(some 25), (some (18, true)), .ld 1 false (.t 24)⟩,
        ⟨(some 26), (some (18, true)), .bin .eql (.t 23) (.t 25)⟩,
        ⟨(some 27), none, .pick (.t 18) (.t 26) (.c (.bool false))⟩]) (
     .cond (.t 27) (
      .skip) (
      .exit 0))) (
    .block 1 (
     .seq (
      .reg none [⟨(some 28), none, .mv (.t 4)⟩,
        ⟨(some 29), none, .fad 9 (.t 5)⟩,
        ⟨(some 30), none, .ld 1 false (.t 29)⟩,
        ⟨(some 31), none, .iad 3 (.t 30) (.c (.int .i64 (0)))⟩,
        ⟨(some 32), none, .ld 3 true (.t 31)⟩,
        ⟨(some 33), none, .bls 102 3 false [(.t 32)]⟩,
        ⟨(some 34), none, .app 102 3 32 false (.t 28) (.t 33)⟩,
        ⟨(some 4), none, .asn (.t 34)⟩]) (
     .seq (
      .reg none [⟨(some 35), none, .bls 102 3 false []⟩,
        ⟨(some 36), none, .fad 9 (.t 5)⟩,
        ⟨(some 37), none, .ld 1 false (.t 36)⟩,
        ⟨(some 38), none, .slc 3 (.t 37) (some (.c (.int .i64 (1)))) none⟩,
        ⟨(some 39), none, .app 102 3 32 false (.t 35) (.t 38)⟩,
        ⟨(some 40), none, .fad 9 (.t 5)⟩,
        ⟨none, none, .st 1 false (.t 40) (.t 39)⟩]) (
     .reg none [⟨(some 41), none, .fad 7 (.t 5)⟩,
       ⟨(some 42), none, .ld 1 false (.t 41)⟩,
       ⟨(some 43), none, .bin .add (.t 42) (.c (.int .i64 (1)))⟩,
       ⟨(some 44), none, .fad 7 (.t 5)⟩,
       ⟨none, none, .st 1 false (.t 44) (.t 43)⟩]))))))) (
 .seq (
  .drw none 0 [⟨(some 45), none, .mv (.t 4)⟩,
    ⟨(some 46), none, .ld 10 true (.t 5)⟩,
    ⟨(some 2), none, .asn (.t 45)⟩,
    ⟨none, none, .st 10 false (.t 3) (.t 46)⟩]) (
 .ret))))))
def r_spec_Told : Nat × List RV := (47, [.t 2, .c 3 10 true])

theorem c_spec_Told : cmpS PT PF PA (Try.prog.funcs[28]?) = some (r_spec_Told.1, r_spec_Told.2, stripK k_spec_Told) := by kernel_rfl

theorem h_spec_Told (t : TTenant) (hw : wTenant t < 2 ^ 31) : CallsF Try.prog 28 [.agg (sTenant t)] (.tup [(false, [.ar true 102 3 ((toldL t).map rOutcome)]), (true, rTenant (toldT t))]) := by
  refine Prun c_spec_Told (by simp [r_spec_Told]) (by simp) ?_
  unfold k_spec_Told r_spec_Told
  have hk := h_spec_l14Copy t hw
  have ho := h_spec_TenantOk t (by omega)
  rw [tenantOk_eq] at ho
  have hdue := @dueOk t
  simp only [toldL, toldT]
  generalize tenantOk t = ok at *
  obtain ⟨a0, a1, a2, a3, a4, a5, a6, d, qs, xs⟩ := t
  simp only [wTenant] at hw
  have hl9 := wL_len wOutcome xs
  simp only [sTenant, rTenant] at hk ho
  simp only at hdue
  simp [sTenant]
  refine callG_F hk (by simp) ?_
  simp
  refine callG_F ho (by simp) ?_
  cases ok with
  | false => simp [rTenant]
  | true =>
    have hdue := hdue rfl
    have hN0 : toldN ⟨a0, a1, a2, a3, a4, a5, a6, d, qs, xs⟩ = leftLen xs d 0 := by simp [toldN, leftLen]
    have hkl := runLen_le xs d
    simp only [hN0]
    simp
    refine awp_loop (fun n σ => ∃ j : Nat, j ≤ xs.length ∧ n = xs.length - j ∧ leftLen xs d 0 = j + leftLen xs d j ∧ σ = ⟨[(3, .one (.pt 10 3 [] 0 0)), (4, .one (.vw 102 3 4 [] 0 j)), (5, .one (.pt 10 5 [] 0 0))],
      [(3, ⟨25, 10, [zTenant]⟩), (4, ⟨102, 3, (xs.take j).map rOutcome⟩), (5, ⟨25, 10, [[cI a0, cI a1, cI a2, cI a3, cI a4, cI a5, cI a6, cI (d + j), .ar true 133 10 (qs.map rJob), .ar true 102 3 ((xs.drop j).map rOutcome)]]⟩)]⟩) (xs.length) ⟨0, by simp [zTenant]⟩ ?_
    rintro n σ ⟨j, hj, rfl, hle, rfl⟩
    have w1 : IntKind.i64.wrap (d + (j : Int) + 1) = d + (j + 1 : Nat) := by rw [wrapI (by omega) (by omega)]; omega
    by_cases h : j < xs.length
    · have hp : 0 < xs.length - j := by omega
      have hst := leftLen_step (d := d) h
      have hLn : (xs.take j).length = j := by rw [List.length_take]; omega
      have hLs : xs.take (j + 1) = xs.take j ++ [xs[j]] := List.take_succ_eq_append_getElem h
      have hDs : xs.drop j = xs[j] :: xs.drop (j + 1) := List.drop_eq_getElem_cons h
      have hDl : (xs.drop (j + 1)).length = xs.length - (j + 1) := by rw [List.length_drop]
      rcases ea : xs[j] with ⟨x1, x2, x3⟩
      rw [ea] at hst hLs hDs
      simp only at hst
      have hbN : j + 1 ≤ 4294967296 := by omega
      have hbM : (xs.drop (j + 1)).length ≤ 4294967296 := by omega
      rw [hDs]
      have hp1 : (1 : Int) ≤ ↑(xs.drop (j + 1)).length + 1 := by omega
      have hR : ((xs.take j).map rOutcome).take j = (xs.take j).map rOutcome := List.take_of_length_le (by simp; omega)
      have hs1 : 1 + (xs.drop (j + 1)).length ≤ (xs.drop (j + 1)).length + 1 := by omega
      have hls := congrArg (List.map rOutcome) hLs
      rw [List.map_append] at hls
      by_cases c : x1 = d + j
      · rw [if_pos c] at hst
        subst c
        generalize hD1 : xs.drop (j + 1) = D1 at *
        generalize hL1 : xs.take j = L1 at *
        simp only [show List.map rOutcome = List.map sOutcome from rfl] at hR hls
        simp [rOutcome, sOutcome, zTenant, hLn, hbN, hbM, w1, hR, hp1, hs1, affO]
        refine ⟨xs.length - (j + 1), by omega, j + 1, by omega, rfl, by omega, rfl, ?_, by omega, ?_⟩
        · rw [← List.map_take, hls]; rfl
        · rw [← List.map_drop, hD1]
      · rw [if_neg c] at hst
        rw [hst, Nat.add_zero] at hle
        rw [hle, hDs]
        generalize hD1 : xs.drop (j + 1) = D1 at *
        generalize hL1 : xs.take j = L1 at *
        simp only [show List.map rOutcome = List.map sOutcome from rfl] at hR hls
        simp [rOutcome, sOutcome, zTenant, c, hLn, hbN, hbM, w1, hR, hp1, hs1, affO, rTenant]
        rw [← hL1, List.map_take]
    · have hj2 : j = xs.length := by omega
      have hst := leftLen_end (d := d) h
      rw [hst, Nat.add_zero] at hle
      subst hj2
      simp [hle, zTenant, rTenant]
-- 30 loop.example/g00485/impl.Told
def k_impl_Told : K :=
 .seq (
  .reg none [⟨(some 1), none, .box 25 10 (.t 0)⟩,
    ⟨(some 2), none, .asn (.c (.ar true 102 3 []))⟩,
    ⟨(some 3), none, .alc 25 10 [(.int .i64 (0)), (.int .i64 (0)), (.int .i64 (0)), (.int .i64 (0)), (.int .i64 (0)), (.int .i64 (0)), (.int .i64 (0)), (.int .i64 (0)), (.ar true 133 10 []), (.ar true 102 3 [])]⟩]) (
 .seq (
  .reg none [⟨(some 6), none, .ld 10 true (.t 1)⟩,
    ⟨(some 7), none, .call 69 [(.t 6)]⟩,
    ⟨(some 4), none, .alc 25 10 [(.int .i64 (0)), (.int .i64 (0)), (.int .i64 (0)), (.int .i64 (0)), (.int .i64 (0)), (.int .i64 (0)), (.int .i64 (0)), (.int .i64 (0)), (.ar true 133 10 []), (.ar true 102 3 [])]⟩,
    ⟨none, none, .st 10 false (.t 4) (.t 7)⟩]) (
 .seq (
  .seq (
   .reg none [⟨(some 8), none, .ld 10 true (.t 1)⟩,
     ⟨(some 9), none, .call 48 [(.t 8)]⟩,
     ⟨(some 10), none, .not (.t 9)⟩]) (
  .cond (.t 10) (
   .seq (
    .drw none 0 [⟨(some 11), none, .ld 10 true (.t 4)⟩,
      ⟨(some 2), none, .asn (.c (.ar true 102 3 []))⟩,
      ⟨none, none, .st 10 false (.t 3) (.t 11)⟩]) (
   .ret)) (
   .skip))) (
 .seq (
  .reg none [⟨(some 5), none, .asn (.c (.ar true 102 3 []))⟩]) (
 .seq (
  .block 0 (
   .loop (some ([3, 4, 5], [3, 4, 5, 1000])) (
    .seq (
     .seq (
      .drw none 14 [⟨(some 12), none, .fad 9 (.t 4)⟩,
        ⟨(some 13), none, .ld 1 false (.t 12)⟩,
        ⟨(some 14), none, .len (.t 13)⟩,
        ⟨(some 15), none, .bin .gtr (.t 14) (.c (.int .i64 (0)))⟩,
        ⟨(some 16), none, .mv (.t 15)⟩,
        ⟨(some 17), (some (16, true)), .fad 9 (.t 4)⟩,
        ⟨(some 18), (some (16, true)), .ld 1 false (.t 17)⟩,
        ⟨(some 19), (some (16, true)), .iad 3 (.t 18) (.c (.int .i64 (0)))⟩,
        ⟨(some 20), (some (16, true)), .fad 0 (.t 19)⟩,
        ⟨(some 21), (some (16, true)), .ld 1 false (.t 20)⟩,
        ⟨(some 22), (some (16, true)), .fad 7 (.t 4)⟩,
        ⟨(some 23), (some (16, true)), .ld 1 false (.t 22)⟩,
        ⟨(some 24), (some (16, true)), .bin .eql (.t 21) (.t 23)⟩,
        ⟨(some 25), none, .pick (.t 16) (.t 24) (.c (.bool false))⟩]) (
     .cond (.t 25) (
      .skip) (
      .exit 0))) (
    .block 1 (
     .seq (
      .reg none [⟨(some 26), none, .mv (.t 5)⟩,
        ⟨(some 27), none, .fad 9 (.t 4)⟩,
        ⟨(some 28), none, .ld 1 false (.t 27)⟩,
        ⟨(some 29), none, .iad 3 (.t 28) (.c (.int .i64 (0)))⟩,
        ⟨(some 30), none, .ld 3 true (.t 29)⟩,
        ⟨(some 31), none, .bls 102 3 false [(.t 30)]⟩,
        ⟨(some 32), none, .app 102 3 32 false (.t 26) (.t 31)⟩,
        ⟨(some 5), none, .asn (.t 32)⟩]) (
     .seq (
      .reg none [⟨(some 33), none, .fad 9 (.t 4)⟩,
        ⟨(some 34), none, .ld 1 false (.t 33)⟩,
        ⟨(some 35), none, .callo 70 1 [(.t 34), (.c (.int .i64 (0))), (.c (.int .i64 (1)))]⟩,
        ⟨(some 36), none, .fad 9 (.t 4)⟩,
        ⟨none, none, .st 1 false (.t 36) (.t 35)⟩]) (
     .reg none [⟨(some 37), none, .fad 7 (.t 4)⟩,
       ⟨(some 38), none, .ld 1 false (.t 37)⟩,
       ⟨(some 39), none, .bin .add (.t 38) (.c (.int .i64 (1)))⟩,
       ⟨(some 40), none, .fad 7 (.t 4)⟩,
       ⟨none, none, .st 1 false (.t 40) (.t 39)⟩]))))))) (
 .seq (
  .drw none 0 [⟨(some 41), none, .mv (.t 5)⟩,
    ⟨(some 42), none, .ld 10 true (.t 4)⟩,
    ⟨(some 2), none, .asn (.t 41)⟩,
    ⟨none, none, .st 10 false (.t 3) (.t 42)⟩]) (
 .ret))))))
def r_impl_Told : Nat × List RV := (43, [.t 2, .c 3 10 true])

theorem c_impl_Told : cmpS PT PF PA (Try.prog.funcs[30]?) = some (r_impl_Told.1, r_impl_Told.2, stripK k_impl_Told) := by kernel_rfl

theorem h_impl_Told (t : TTenant) (hl : lTenant t) (hw : wTenant t < 2 ^ 31) : CallsF Try.prog 30 [.agg (sTenant t)] (.tup [(false, [.ar true 102 3 ((toldL t).map rOutcome)]), (true, rTenant (toldT t))]) := by
  refine Prun c_impl_Told (by simp [r_impl_Told]) (by simp) ?_
  unfold k_impl_Told r_impl_Told
  have hk := h_impl_copyTenant t hw
  have ho := h_impl_TenantOk t hl (by omega)
  have hdue := @dueOk t
  simp only [toldL, toldT]
  generalize tenantOk t = ok at *
  obtain ⟨a0, a1, a2, a3, a4, a5, a6, d, qs, xs⟩ := t
  simp only [wTenant] at hw
  have hl9 := wL_len wOutcome xs
  simp only [sTenant, rTenant] at hk ho
  simp only at hdue
  simp [sTenant]
  refine callG_F hk (by simp) ?_
  simp
  refine callG_F ho (by simp) ?_
  cases ok with
  | false => simp [rTenant]
  | true =>
    have hdue := hdue rfl
    have hN0 : toldN ⟨a0, a1, a2, a3, a4, a5, a6, d, qs, xs⟩ = leftLen xs d 0 := by simp [toldN, leftLen]
    have hkl := runLen_le xs d
    simp only [hN0]
    simp
    refine awp_loop (fun n σ => ∃ j : Nat, j ≤ xs.length ∧ n = xs.length - j ∧ leftLen xs d 0 = j + leftLen xs d j ∧ σ = ⟨[(3, .one (.pt 10 3 [] 0 0)), (4, .one (.pt 10 4 [] 0 0)), (5, .one (.vw 102 3 5 [] 0 j))],
      [(3, ⟨25, 10, [zTenant]⟩), (4, ⟨25, 10, [[cI a0, cI a1, cI a2, cI a3, cI a4, cI a5, cI a6, cI (d + j), .ar true 133 10 (qs.map rJob), .ar true 102 3 ((xs.drop j).map rOutcome)]]⟩), (5, ⟨102, 3, (xs.take j).map rOutcome⟩)]⟩) (xs.length) ⟨0, by simp [zTenant]⟩ ?_
    rintro n σ ⟨j, hj, rfl, hle, rfl⟩
    have w1 : IntKind.i64.wrap (d + (j : Int) + 1) = d + (j + 1 : Nat) := by rw [wrapI (by omega) (by omega)]; omega
    by_cases h : j < xs.length
    · have hp : 0 < xs.length - j := by omega
      have hst := leftLen_step (d := d) h
      have hLn : (xs.take j).length = j := by rw [List.length_take]; omega
      have hLs : xs.take (j + 1) = xs.take j ++ [xs[j]] := List.take_succ_eq_append_getElem h
      have hDs : xs.drop j = xs[j] :: xs.drop (j + 1) := List.drop_eq_getElem_cons h
      have hDl : (xs.drop (j + 1)).length = xs.length - (j + 1) := by rw [List.length_drop]
      rcases ea : xs[j] with ⟨x1, x2, x3⟩
      rw [ea] at hst hLs hDs
      simp only at hst
      have hbN : j + 1 ≤ 4294967296 := by omega
      have hbM : (xs.drop (j + 1)).length ≤ 4294967296 := by omega
      rw [hDs]
      have hp1 : (1 : Int) ≤ ↑(xs.drop (j + 1)).length + 1 := by omega
      have hR : ((xs.take j).map rOutcome).take j = (xs.take j).map rOutcome := List.take_of_length_le (by simp; omega)
      have hs1 : 1 + (xs.drop (j + 1)).length ≤ (xs.drop (j + 1)).length + 1 := by omega
      have hls := congrArg (List.map rOutcome) hLs
      rw [List.map_append] at hls
      by_cases c : x1 = d + j
      · rw [if_pos c] at hst
        subst c
        have hd := h_del_Outcome (⟨d + j, x2, x3⟩ :: xs.drop (j + 1)) 0 (by simp)
        generalize hD1 : xs.drop (j + 1) = D1 at *
        generalize hL1 : xs.take j = L1 at *
        simp only [show List.map rOutcome = List.map sOutcome from rfl] at hR hls
        simp [rOutcome, sOutcome] at hd
        simp [rOutcome, sOutcome, zTenant, hLn, hbN, hbM, w1, hR, hp1, hs1, affO]
        refine callOG_F hd (by simp) ?_
        simp [hLn, hbN, hbM, w1]
        refine ⟨xs.length - (j + 1), by omega, j + 1, by omega, rfl, by omega, rfl, ⟨by omega, ?_⟩, ?_⟩
        · rw [← List.map_drop, hD1]
        · rw [← List.map_take, hls]; rfl
      · rw [if_neg c] at hst
        rw [hst, Nat.add_zero] at hle
        rw [hle, hDs]
        generalize hD1 : xs.drop (j + 1) = D1 at *
        generalize hL1 : xs.take j = L1 at *
        simp only [show List.map rOutcome = List.map sOutcome from rfl] at hR hls
        simp [rOutcome, sOutcome, zTenant, c, hLn, hbN, hbM, w1, hR, hp1, hs1, affO, rTenant]
        rw [← hL1, List.map_take]
    · have hj2 : j = xs.length := by omega
      have hst := leftLen_end (d := d) h
      rw [hst, Nat.add_zero] at hle
      subst hj2
      simp [hle, zTenant, rTenant]
end Go.Am
-- In_Outcome
namespace Go.Am
open Go.Proofs
set_option maxHeartbeats 4000000
set_option maxRecDepth 100000
attribute [-simp] rErr_len sErr_len shr_rErr shr_sErr shrs_rErr shrs_sErr noSh_rErr mErr_wr mErr_n rSlot_len sSlot_len shr_rSlot shr_sSlot shrs_rSlot shrs_sSlot noSh_rSlot mSlot_wr mSlot_n rNode_len sNode_len shr_rNode shr_sNode shrs_rNode shrs_sNode noSh_rNode mNode_wr mNode_n rTree_len sTree_len shr_rTree shr_sTree shrs_rTree shrs_sTree noSh_rTree mTree_wr mTree_n rRun_len sRun_len shr_rRun shr_sRun shrs_rRun shrs_sRun noSh_rRun mRun_wr mRun_n rJob_len sJob_len shr_rJob shr_sJob shrs_rJob shrs_sJob noSh_rJob mJob_wr mJob_n rTenant_len sTenant_len shr_rTenant shr_sTenant shrs_rTenant shrs_sTenant noSh_rTenant mTenant_wr mTenant_n map_rs_Slot map_rs_Err map_rs_Outcome
def renIn_Outcome : Shelf.Ren := ⟨fun k => if k = 22 then 168 else if k = 29 then 191 else 192, fun k => if k = 9 then 102 else if k = 24 then 23 else k, fun k => k⟩
theorem laidIn_Outcome : AmL.LIns Try.prog renIn_Outcome 3 where
  mixed := by kernel_rfl
  f22 := ⟨((Try.prog.funcs[168]?).map (·.name)).getD "", by kernel_rfl, by kernel_rfl⟩
  ov := ⟨_, Try.func191, by kernel_rfl, by kernel_rfl, by kernel_rfl, by kernel_rfl⟩
  t3 := Try.underlying3
  a3 := Try.isAgg3
  z3 := Try.sizeOf3
  t4 := Try.underlying4
  a4 := Try.isAgg4
  z4 := Try.sizeOf4
  z9 := Try.sizeOf102
  t24 := Try.underlying23
  a24 := Try.isAgg23
  z24 := Try.sizeOf23
  i9 := by
    obtain ⟨i, h1, h2, h3, h4⟩ := info_parts (show (Try.prog.info? 102).map (fun i => (i.zero, i.size, i.bytes)) = some (some (.agg #[.int .i64 0, .int .i64 0, .string ⟨#[]⟩]), 3, 32) by kernel_rfl)
    exact ⟨i, _, h1, h2, h3, by omega, rfl⟩
  he := by decide
theorem h_ins_Outcome (xs : List TOutcome) (x : TOutcome) (i : Nat) (hi : i ≤ xs.length) (hn : xs.length + 1 ≤ 4294967296) : CallsF Try.prog 168 [.one (.ar true 102 3 (xs.map rOutcome)), .one (.int .i64 i), .one (.ar true 102 3 [rOutcome x])] (.one (.ar true 102 3 ((xs.take i ++ [x] ++ xs.drop i).map rOutcome))) := by
  have h := ins_callsA laidIn_Outcome (xs.map rOutcome) (rOutcome x) i (by simpa using hi) (by simpa using hn)
  simpa [renIn_Outcome] using h
end Go.Am
-- De_Job
namespace Go.Am
open Go.Proofs
set_option maxHeartbeats 4000000
set_option maxRecDepth 100000
attribute [-simp] rOutcome_len sOutcome_len shr_rOutcome shr_sOutcome shrs_rOutcome shrs_sOutcome noSh_rOutcome mOutcome_wr mOutcome_n rTenant_len sTenant_len shr_rTenant shr_sTenant shrs_rTenant shrs_sTenant noSh_rTenant mTenant_wr mTenant_n map_rs_Slot map_rs_Err map_rs_Outcome
def renDe_Job : Shelf.Ren := ⟨fun _ => 139, fun k => if k = 9 then 133 else if k = 24 then 22 else k, fun k => k⟩
theorem laidDe_Job : AmL.LDel Try.prog renDe_Job 10 (.agg #[.int .i64 0, .int .i64 0, .slice none 0 0, .int .i64 0, .int .i64 0, .int .i64 0, .int .i64 0, .slice none 0 0, .slice none 0 0, .slice none 0 0]) where
  mixed := by kernel_rfl
  f24 := ⟨((Try.prog.funcs[139]?).map (·.name)).getD "", by kernel_rfl, by kernel_rfl⟩
  t0 := Try.underlying0
  a0 := Try.isAgg0
  z0 := Try.sizeOf0
  t3 := Try.underlying3
  a3 := Try.isAgg3
  z3 := Try.sizeOf3
  t4 := Try.underlying4
  a4 := Try.isAgg4
  z4 := Try.sizeOf4
  z9 := Try.sizeOf133
  t24 := Try.underlying22
  a24 := Try.isAgg22
  z24 := Try.sizeOf22
  v9 := fun w => Try.zeroValue133 w
  i9 := by
    obtain ⟨i, h1, h2, h3, h4⟩ := info_parts (show (Try.prog.info? 133).map (fun i => (i.zero, i.size, i.bytes)) = some (some (.agg #[.int .i64 0, .int .i64 0, .slice none 0 0, .int .i64 0, .int .i64 0, .int .i64 0, .int .i64 0, .slice none 0 0, .slice none 0 0, .slice none 0 0]), 10, 144) by kernel_rfl)
    exact ⟨i, h1, h3⟩
  zc := rfl
  z1 := by decide
  he := by decide
theorem h_del_Job (xs : List TJob) (i : Nat) (hi : i < xs.length) : CallsF Try.prog 139 [.one (.ar true 133 10 (xs.map rJob)), .one (.int .i64 i), .one (.int .i64 ((i : Int) + 1))] (.one (.ar true 133 10 ((xs.take i ++ xs.drop (i + 1)).map rJob))) := by
  have h := del_callsF laidDe_Job (xs.map rJob) i (by simpa using hi)
  simpa [renDe_Job] using h
end Go.Am
-- Finish1
namespace Go.Am
open Go.Proofs
set_option maxHeartbeats 4000000
set_option maxRecDepth 100000
theorem cntF_in (d : Int) (n : Nat) : ∀ l : List Int, cntF l d n = l.length → ∀ x ∈ l, d ≤ x ∧ x < d + n
  | [], _, x, hx => by cases hx
  | y :: l, h, x, hx => by
    rw [cntF_cons, List.length_cons] at h
    have h1 := cntF_le d n l
    by_cases hy : d ≤ y ∧ y < d + (n : Int)
    · rw [if_pos hy] at h
      rcases List.mem_cons.1 hx with rfl | hx
      · exact hy
      · exact cntF_in d n l (by omega) x hx
    · rw [if_neg hy] at h; omega
theorem tenant_once {t : TTenant} (h : tenantOk t = true) {i : Nat} (hi : i < t.queue.length) : t.queue[i].ticket ∉ oT t := by
  simp only [tenantOk, ticketsOk, Bool.and_eq_true, decide_eq_true_eq, allN_iff] at h
  obtain ⟨⟨_, ⟨⟨hl, _⟩, _⟩, hc⟩, _⟩ := h
  generalize hn : (t.next - t.due).toNat = n at hc
  have hlen : (qT t ++ oT t).length = n := by simp [qT, oT]; omega
  have h1 := (count_one hlen).2 hc
  have h2 := cntF_ge (qT t ++ oT t) t.due n fun k hk => by rw [h1 k hk]; exact Nat.le_refl _
  have h3 := cntF_le t.due n (qT t ++ oT t)
  intro hm
  have hq : t.queue[i].ticket ∈ qT t := List.mem_map_of_mem (List.getElem_mem hi)
  have h4 := cntF_in t.due n (qT t ++ oT t) (by omega) _ (List.mem_append_left _ hq)
  have h5 := h1 (t.queue[i].ticket - t.due).toNat (by omega)
  rw [show t.due + ((t.queue[i].ticket - t.due).toNat : Int) = t.queue[i].ticket by omega, List.count_append] at h5
  have := List.count_pos_iff.2 hq
  have := List.count_pos_iff.2 hm
  omega
def putN : List TOutcome → Int → Nat
  | [], _ => 0
  | o :: r, k => if k < o.ticket then 0 else putN r k + 1
def tellN : List TOutcome → Int → Nat
  | [], _ => 0
  | o :: r, k => if o.ticket < k then tellN r k + 1 else 0
theorem tellN_putN : ∀ (xs : List TOutcome) (k : Int), k ∉ xs.map TOutcome.ticket → tellN xs k = putN xs k
  | [], _, _ => rfl
  | o :: r, k, h => by
    simp only [List.map_cons, List.mem_cons, not_or] at h
    simp only [tellN, putN]
    rw [tellN_putN r k h.2]
    by_cases h1 : o.ticket < k
    · rw [if_pos h1, if_neg (by omega)]
    · rw [if_neg h1, if_pos (by omega)]
theorem putN_le : ∀ (xs : List TOutcome) (k : Int), putN xs k ≤ xs.length
  | [], _ => Nat.le_refl _
  | o :: r, k => by
    simp only [putN]
    split
    · exact Nat.zero_le _
    · have := putN_le r k; simp; omega
def putL (xs : List TOutcome) (x : TOutcome) : List TOutcome := xs.take (putN xs x.ticket) ++ [x] ++ xs.drop (putN xs x.ticket)
def endT (t : TTenant) (i : Nat) (code : Int) (text : ByteArray) : TTenant :=
  { t with queue := t.queue.take i ++ t.queue.drop (i + 1), out := putL t.out ⟨(t.queue.getD i default).ticket, code, text⟩, wait := if t.queue.length = 1 then 0 else t.wait }
-- 138 loop.example/g00485/spec.l14Put
def k_spec_l14Put : K :=
 .seq (
  .reg none [⟨(some 3), none, .box 102 3 (.t 1)⟩,
    ⟨(some 4), none, .asn (.c (.ar true 102 3 []))⟩]) (
 .seq (
  .reg none [⟨(some 8), none, .mv (.t 0)⟩,
    ⟨(some 9), none, .len (.t 8)⟩,
    ⟨(some 5), none, .asn (.t 9)⟩]) (
 .seq (
  .seq (
   .reg none [⟨(some 10), none, .mv (.t 0)⟩,
     ⟨(some 11), none, .len (.t 10)⟩,
     ⟨(some 12), none, .bin .sub (.t 11) (.c (.int .i64 (1)))⟩,
     ⟨(some 6), none, .asn (.t 12)⟩]) (
  .block 0 (
   .loop (some ([0, 3, 5, 6], [0, 3, 5, 6, 1000])) (
    .seq (
     .seq (
      .reg none [⟨(some 13), none, .mv (.t 6)⟩,
        ⟨(some 14), none, .bin .geq (.t 13) (.c (.int .i64 (0)))⟩]) (
     .cond (.t 14) (
      .skip) (
      .exit 0))) (
    .seq (
     .block 1 (
      .seq (
       .drw none 8 [⟨(some 17), none, .mv (.t 0)⟩,
         ⟨(some 18), none, .mv (.t 6)⟩,
         ⟨(some 19), none, .iad 3 (.t 17) (.t 18)⟩,
         ⟨(some 20), none, .fad 0 (.t 19)⟩,
         ⟨(some 21), none, .ld 1 false (.t 20)⟩,
         ⟨(some 22), none, .fad 0 (.t 3)⟩,
         ⟨(some 23), none, .ld 1 false (.t 22)⟩,
         ⟨(some 24), none, .bin .gtr (.t 21) (.t 23)⟩]) (
      .cond (.t 24) (
       .reg none [⟨(some 25), none, .mv (.t 6)⟩,
         ⟨(some 5), none, .asn (.t 25)⟩]) (
       .skip)))) (
    .reg none [⟨(some 15), none, .mv (.t 6)⟩,
      ⟨(some 16), none, .bin .sub (.t 15) (.c (.int .i64 (1)))⟩,
      ⟨(some 6), none, .asn (.t 16)⟩])))))) (
 .seq (
  .reg none [⟨(some 26), none, .bls 102 3 false []⟩,
    ⟨(some 27), none, .mv (.t 0)⟩,
    ⟨(some 28), none, .mv (.t 5)⟩,
    ⟨(some 29), none, .slc 3 (.t 27) none (some (.t 28))⟩,
    ⟨(some 30), none, .app 102 3 32 false (.t 26) (.t 29)⟩,
    ⟨(some 7), none, .asn (.t 30)⟩]) (
 .seq (
  .reg none [⟨(some 31), none, .mv (.t 7)⟩,
    ⟨(some 32), none, .ld 3 true (.t 3)⟩,
    ⟨(some 33), none, .bls 102 3 false [(.t 32)]⟩,
    ⟨(some 34), none, .app 102 3 32 false (.t 31) (.t 33)⟩,
    ⟨(some 7), none, .asn (.t 34)⟩]) (
 .seq (
  .reg none [⟨(some 35), none, .mv (.t 7)⟩,
    ⟨(some 36), none, .mv (.t 0)⟩,
    ⟨(some 37), none, .mv (.t 5)⟩,
    ⟨(some 38), none, .slc 3 (.t 36) (some (.t 37)) none⟩,
    ⟨(some 39), none, .app 102 3 32 false (.t 35) (.t 38)⟩,
    ⟨(some 4), none, .asn (.t 39)⟩]) (
 .ret))))))
def r_spec_l14Put : Nat × List RV := (40, [.t 4])

theorem c_spec_l14Put : cmpS PT PF PA (Try.prog.funcs[138]?) = some (r_spec_l14Put.1, r_spec_l14Put.2, stripK k_spec_l14Put) := by kernel_rfl

theorem h_spec_l14Put (xs : List TOutcome) (x : TOutcome) (hw : xs.length < 2 ^ 31) : CallsF Try.prog 138 [.one (.ar false 0 3 (xs.map sOutcome)), .agg (sOutcome x)] (.one (.ar true 102 3 ((putL xs x).map rOutcome))) := by
  refine Prun c_spec_l14Put (by simp [r_spec_l14Put]) (by simp) ?_
  unfold k_spec_l14Put r_spec_l14Put
  have hle := putN_le xs x.ticket
  have w0 : IntKind.i64.wrap ((xs.length : Int) - 1) = (xs.length : Int) - 1 := wrapI (by omega) (by omega)
  obtain ⟨x1, x2, x3⟩ := x
  simp only at hle
  simp [sOutcome, w0]
  refine awp_loop (fun n σ => ∃ j : Nat, j ≤ xs.length ∧ n = j ∧ σ = ⟨[(0, .one (.ar false 0 3 (xs.map sOutcome))), (3, .one (.pt 3 3 [] 0 0)), (5, aI ((j : Int) + putN (xs.drop j) x1)), (6, aI ((j : Int) - 1))],
    [(3, ⟨102, 3, [[cI x1, cI x2, .str x3]]⟩)]⟩) (xs.length) ⟨xs.length, by omega, rfl, by simp [putN]⟩ ?_
  rintro j σ ⟨_, hj, rfl, rfl⟩
  by_cases h : 0 < j
  · obtain ⟨i, rfl⟩ : ∃ i, j = i + 1 := ⟨j - 1, by omega⟩
    have hi : i < xs.length := by omega
    have e1 : ((i + 1 : Nat) : Int) - 1 = i := by omega
    have w1 : IntKind.i64.wrap ((i : Int) - 1) = (i : Int) - 1 := wrapI (by omega) (by omega)
    have hd : xs.drop i = xs[i] :: xs.drop (i + 1) := List.drop_eq_getElem_cons hi
    have hc0 : (0 : Int) ≤ i := by omega
    rcases ea : xs[i] with ⟨y1, y2, y3⟩
    rw [ea] at hd
    by_cases c : x1 < y1
    · have hp : putN (xs.drop i) x1 = 0 := by rw [hd]; simp only [putN]; rw [if_pos c]
      simp [e1, hc0, hi, ea, sOutcome, c, w1]
      exact ⟨i, by omega, i, by omega, rfl, by rw [hp]; simp, rfl⟩
    · have hp : putN (xs.drop i) x1 = putN (xs.drop (i + 1)) x1 + 1 := by rw [hd]; simp only [putN]; rw [if_neg c]
      simp [e1, hc0, hi, ea, sOutcome, c, w1]
      exact ⟨i, by omega, i, by omega, rfl, by rw [hp]; omega, rfl⟩
  · have : j = 0 := by omega
    subst this
    generalize hN : putN xs x1 = N at *
    have hm : min N xs.length = N := Nat.min_eq_left hle
    have hb1 : N ≤ 4294967296 := by omega
    have hb2 : N + 1 ≤ 4294967296 := by omega
    have hb3 : N + 1 + (xs.length - N) ≤ 4294967296 := by omega
    have hlen : (List.take N (List.map sOutcome xs) ++ [[cI x1, cI x2, C.str x3]]).length = N + 1 := by simp [hm]
    simp [hN, hle, hm, hb1, hb2, hb3, affO, putL]
    have hA : (List.take N (List.map sOutcome xs)).length = N := by simp [hm]
    have hB : (List.drop N (List.map sOutcome xs)).length = xs.length - N := by simp
    generalize List.take N (List.map sOutcome xs) = A at *
    generalize List.drop N (List.map sOutcome xs) = B at *
    rw [List.take_of_length_le (l := A) (by omega), List.take_of_length_le (l := A ++ [[cI x1, cI x2, C.str x3]]) (by simp; omega), List.take_of_length_le (by simp; omega)]
    simp [sOutcome]
-- 140 (*loop.example/g00485/impl.Tenant).tell
def k_impl_Tenant_tell : K :=
 .seq (
  .reg none [⟨(some 3), none, .box 102 3 (.t 1)⟩]) (
 .seq (
  .reg none [⟨(some 4), none, .asn (.c (.int .i64 (0)))⟩]) (
 .seq (
  .block 0 (
   .loop (some ([0, 3, 4], [0, 3, 4, 1000])) (
    .seq (
     .seq (
      .drw none 20 [⟨(some 5), none, .mv (.t 4)⟩,
        ⟨(some 6), none, .mv (.t 0)⟩,
        ⟨(some 7), none, .nil (.t 6)⟩,
        ⟨(some 8), none, .fad 9 (.t 7)⟩,
        ⟨(some 9), none, .ld 1 false (.t 8)⟩,
        ⟨(some 10), none, .len (.t 9)⟩,
        ⟨(some 11), none, .bin .lss (.t 5) (.t 10)⟩,
        ⟨(some 12), none, .mv (.t 11)⟩,
        ⟨(some 13), (some (12, true)), .mv (.t 0)⟩,
        ⟨(some 14), (some (12, true)), .nil (.t 13)⟩,
        ⟨(some 15), (some (12, true)), .fad 9 (.t 14)⟩,
        ⟨(some 16), (some (12, true)), .ld 1 false (.t 15)⟩,
        ⟨(some 17), (some (12, true)), .mv (.t 4)⟩,
        ⟨(some 18), (some (12, true)), .iad 3 (.t 16) (.t 17)⟩,
        ⟨(some 19), (some (12, true)), .fad 0 (.t 18)⟩,
        ⟨(some 20), (some (12, true)), .ld 1 false (.t 19)⟩,
        ⟨(some 21), (some (12, true)), .fad 0 (.t 3)⟩,
        ⟨(some 22), (some (12, true)), .ld 1 false (.t 21)⟩,
        ⟨(some 23), (some (12, true)), .bin .lss (.t 20) (.t 22)⟩,
        ⟨(some 24), none, .pick (.t 12) (.t 23) (.c (.bool false))⟩]) (
     .cond (.t 24) (
      .skip) (
      .exit 0))) (
    .block 1 (
     .reg none [⟨(some 25), none, .mv (.t 4)⟩,
       ⟨(some 26), none, .bin .add (.t 25) (.c (.int .i64 (1)))⟩,
       ⟨(some 4), none, .asn (.t 26)⟩]))))) (
 .drw none 0 [⟨(some 27), none, .mv (.t 0)⟩,
   ⟨(some 28), none, .mv (.t 0)⟩,
   ⟨(some 29), none, .nil (.t 28)⟩,
   ⟨(some 30), none, .fad 9 (.t 29)⟩,
   ⟨(some 31), none, .ld 1 false (.t 30)⟩,
   ⟨(some 32), none, .mv (.t 4)⟩,
   ⟨(some 33), none, .ld 3 true (.t 3)⟩,
   ⟨(some 34), none, .bls 102 3 false [(.t 33)]⟩,
   ⟨(some 35), none, .callo 168 3 [(.t 31), (.t 32), (.t 34)]⟩,
   ⟨(some 36), none, .nil (.t 27)⟩,
   ⟨(some 37), none, .fad 9 (.t 36)⟩,
   ⟨none, none, .st 1 false (.t 37) (.t 35)⟩])))
def r_impl_Tenant_tell : Nat × List RV := (38, [])

theorem c_impl_Tenant_tell : cmpS PT PF PA (Try.prog.funcs[140]?) = some (r_impl_Tenant_tell.1, r_impl_Tenant_tell.2, stripK k_impl_Tenant_tell) := by kernel_rfl

theorem h_impl_tell (t : TTenant) (x : TOutcome) (hx : x.ticket ∉ oT t) (hw : t.out.length < 2 ^ 31) :
    CallsB Try.prog 140 [.one (.pt 10 1000 [] 0 0), .agg (sOutcome x)] ⟨25, 10, [rTenant t]⟩ ⟨25, 10, [rTenant { t with out := putL t.out x }]⟩ (.tup []) := by
  refine PrunA c_impl_Tenant_tell (by simp [r_impl_Tenant_tell]) (by simp) ?_
  unfold k_impl_Tenant_tell r_impl_Tenant_tell
  have hle := putN_le t.out x.ticket
  have hin := h_ins_Outcome t.out x (putN t.out x.ticket) hle (by omega)
  rw [← tellN_putN t.out x.ticket hx] at hle
  obtain ⟨a0, a1, a2, a3, a4, a5, a6, d, qs, xs⟩ := t
  obtain ⟨x1, x2, x3⟩ := x
  simp only [oT] at hx hle hin hw
  rw [← tellN_putN xs x1 hx] at hin
  have hpt : putL xs ⟨x1, x2, x3⟩ = xs.take (tellN xs x1) ++ [⟨x1, x2, x3⟩] ++ xs.drop (tellN xs x1) := by rw [putL, tellN_putN xs x1 hx]
  simp only [hpt]
  simp [rOutcome, sOutcome] at hin
  simp [rOutcome, sOutcome, rTenant]
  refine awp_loop (fun n σ => ∃ j : Nat, j ≤ xs.length ∧ n = xs.length - j ∧ tellN xs x1 = j + tellN (xs.drop j) x1 ∧ σ = ⟨[(0, .one (.pt 10 1000 [] 0 0)), (3, .one (.pt 3 3 [] 0 0)), (4, aI j)],
    [(3, ⟨102, 3, [[cI x1, cI x2, .str x3]]⟩), (1000, ⟨25, 10, [[cI a0, cI a1, cI a2, cI a3, cI a4, cI a5, cI a6, cI d, .ar true 133 10 (qs.map rJob), .ar true 102 3 (xs.map rOutcome)]]⟩)]⟩) (xs.length) ⟨0, by simp⟩ ?_
  rintro n σ ⟨j, hj, rfl, he, rfl⟩
  by_cases h : j < xs.length
  · have hd : xs.drop j = xs[j] :: xs.drop (j + 1) := List.drop_eq_getElem_cons h
    have w1 : IntKind.i64.wrap ((j : Int) + 1) = (j : Int) + 1 := wrapI (by omega) (by omega)
    rcases ea : xs[j] with ⟨y1, y2, y3⟩
    rw [ea] at hd
    by_cases c : y1 < x1
    · have hp : tellN (xs.drop j) x1 = tellN (xs.drop (j + 1)) x1 + 1 := by rw [hd]; simp only [tellN]; rw [if_pos c]
      rw [hp] at he
      simp [rOutcome, sOutcome, h, ea, c, w1]
      exact ⟨xs.length - (j + 1), by omega, j + 1, by omega, rfl, by omega, by omega⟩
    · have hp : tellN (xs.drop j) x1 = 0 := by rw [hd]; simp only [tellN]; rw [if_neg c]
      rw [hp, Nat.add_zero] at he
      subst he
      simp [rOutcome, sOutcome, h, ea, c]
      refine callOG_F hin (by simp) ?_
      simp
  · have hjl : j = xs.length := by omega
    subst hjl
    have hp : tellN (xs.drop xs.length) x1 = 0 := by rw [List.drop_length]; rfl
    rw [hp, Nat.add_zero] at he
    rw [he] at hin
    simp [rOutcome, sOutcome, he]
    refine callOG_F hin (by simp) ?_
    simp
end Go.Am
-- Tenant_u
namespace Go.Am
open Go.Proofs
set_option maxHeartbeats 4000000
set_option maxRecDepth 100000
attribute [-simp] map_rs_Slot map_rs_Err map_rs_Outcome
def vTenant (a : TTenant) : List C := [cI a.quantum, cI a.cls, cI a.budget, cI a.used, cI a.wait, cI a.turns, cI a.next, cI a.due, .vw 133 10 1000 [] 0 a.queue.length, .vw 102 3 1001 [] 0 a.out.length]
def uTenant : Mk TTenant := ⟨fun a k => ⟨a.quantum, a.cls, a.budget, a.used, a.wait, a.turns, a.next, a.due, mJob.mkL a.queue (k), mOutcome.mkL a.out (k + mJob.nL a.queue)⟩, fun a => mJob.nL a.queue + mOutcome.nL a.out⟩
@[simp] theorem uTenant_wr (a : TTenant) (k : Int) : uTenant.wr a k = ⟨a.quantum, a.cls, a.budget, a.used, a.wait, a.turns, a.next, a.due, mJob.mkL a.queue (k), mOutcome.mkL a.out (k + mJob.nL a.queue)⟩ := rfl
@[simp] theorem uTenant_n (a : TTenant) : uTenant.n a = mJob.nL a.queue + mOutcome.nL a.out := rfl
end Go.Am
-- Conf_y
namespace Go.Am
open Go.Proofs
set_option maxHeartbeats 4000000
set_option maxRecDepth 100000
attribute [-simp] rErr_len sErr_len shr_rErr shr_sErr shrs_rErr shrs_sErr noSh_rErr mErr_wr mErr_n rSlot_len sSlot_len shr_rSlot shr_sSlot shrs_rSlot shrs_sSlot noSh_rSlot mSlot_wr mSlot_n rNode_len sNode_len shr_rNode shr_sNode shrs_rNode shrs_sNode noSh_rNode mNode_wr mNode_n rTree_len sTree_len shr_rTree shr_sTree shrs_rTree shrs_sTree noSh_rTree mTree_wr mTree_n rRun_len sRun_len shr_rRun shr_sRun shrs_rRun shrs_sRun noSh_rRun mRun_wr mRun_n rJob_len sJob_len shr_rJob shr_sJob shrs_rJob shrs_sJob noSh_rJob mJob_wr mJob_n rOutcome_len sOutcome_len shr_rOutcome shr_sOutcome shrs_rOutcome shrs_sOutcome noSh_rOutcome mOutcome_wr mOutcome_n rTenant_len sTenant_len shr_rTenant shr_sTenant shrs_rTenant shrs_sTenant noSh_rTenant mTenant_wr mTenant_n map_rs_Slot map_rs_Err map_rs_Outcome uTenant_wr uTenant_n
structure TConf where
  alt : Int
  row : List Int
  deriving DecidableEq, Inhabited
def rConf (a : TConf) : List C := [cI a.alt, .ar true 3 1 (a.row.map rI)]
def sConf (a : TConf) : List C := [cI a.alt, .ar false 0 1 (a.row.map rI)]
def zConf : List C := [cI 0, .ar true 3 1 []]
@[simp] theorem rConf_len (a : TConf) : (rConf a).length = 2 := rfl
@[simp] theorem sConf_len (a : TConf) : (sConf a).length = 2 := rfl
@[simp] theorem shr_rConf (a : TConf) : shrRow (rConf a) = sConf a := by simp [rConf, sConf]
@[simp] theorem shr_sConf (a : TConf) : shrRow (sConf a) = sConf a := by simp [sConf]
@[simp] theorem shrs_rConf (xs : List TConf) : shrRows (xs.map rConf) = xs.map sConf := shrRows_of shr_rConf xs
@[simp] theorem shrs_sConf (xs : List TConf) : shrRows (xs.map sConf) = xs.map sConf := shrRows_of shr_sConf xs
@[simp] theorem noSh_rConf (xs : List TConf) : noShRows (xs.map rConf) = true := noSh_of (fun a => by simp [rConf]) xs
def wConf (a : TConf) : Nat := wL w0 a.row
def lConf (a : TConf) : Prop := lL l0 a.row
def mConf : Mk TConf := ⟨fun a k => ⟨k, mI.mkL a.row (k + 1)⟩, fun a => 1 + mI.nL a.row⟩
@[simp] theorem mConf_wr (a : TConf) (k : Int) : mConf.wr a k = ⟨k, mI.mkL a.row (k + 1)⟩ := rfl
@[simp] theorem mConf_n (a : TConf) : mConf.n a = 1 + mI.nL a.row := rfl
end Go.Am
-- Line_y
namespace Go.Am
open Go.Proofs
set_option maxHeartbeats 4000000
set_option maxRecDepth 100000
attribute [-simp] rErr_len sErr_len shr_rErr shr_sErr shrs_rErr shrs_sErr noSh_rErr mErr_wr mErr_n rSlot_len sSlot_len shr_rSlot shr_sSlot shrs_rSlot shrs_sSlot noSh_rSlot mSlot_wr mSlot_n rNode_len sNode_len shr_rNode shr_sNode shrs_rNode shrs_sNode noSh_rNode mNode_wr mNode_n rTree_len sTree_len shr_rTree shr_sTree shrs_rTree shrs_sTree noSh_rTree mTree_wr mTree_n rRun_len sRun_len shr_rRun shr_sRun shrs_rRun shrs_sRun noSh_rRun mRun_wr mRun_n rJob_len sJob_len shr_rJob shr_sJob shrs_rJob shrs_sJob noSh_rJob mJob_wr mJob_n rOutcome_len sOutcome_len shr_rOutcome shr_sOutcome shrs_rOutcome shrs_sOutcome noSh_rOutcome mOutcome_wr mOutcome_n rTenant_len sTenant_len shr_rTenant shr_sTenant shrs_rTenant shrs_sTenant noSh_rTenant mTenant_wr mTenant_n map_rs_Slot map_rs_Err map_rs_Outcome uTenant_wr uTenant_n
structure TLine where
  frm : List TConf
  letter : Int
  too : List TConf
  deriving DecidableEq, Inhabited
def rLine (a : TLine) : List C := [.ar true 96 2 (a.frm.map rConf), cI a.letter, .ar true 96 2 (a.too.map rConf)]
def sLine (a : TLine) : List C := [.ar false 0 2 (a.frm.map sConf), cI a.letter, .ar false 0 2 (a.too.map sConf)]
def zLine : List C := [.ar true 96 2 [], cI 0, .ar true 96 2 []]
@[simp] theorem rLine_len (a : TLine) : (rLine a).length = 3 := rfl
@[simp] theorem sLine_len (a : TLine) : (sLine a).length = 3 := rfl
@[simp] theorem shr_rLine (a : TLine) : shrRow (rLine a) = sLine a := by simp [rLine, sLine]
@[simp] theorem shr_sLine (a : TLine) : shrRow (sLine a) = sLine a := by simp [sLine]
@[simp] theorem shrs_rLine (xs : List TLine) : shrRows (xs.map rLine) = xs.map sLine := shrRows_of shr_rLine xs
@[simp] theorem shrs_sLine (xs : List TLine) : shrRows (xs.map sLine) = xs.map sLine := shrRows_of shr_sLine xs
@[simp] theorem noSh_rLine (xs : List TLine) : noShRows (xs.map rLine) = true := noSh_of (fun a => by simp [rLine]) xs
def wLine (a : TLine) : Nat := wL wConf a.frm + wL wConf a.too
def lLine (a : TLine) : Prop := lL lConf a.frm ∧ lL lConf a.too
def mLine : Mk TLine := ⟨fun a k => ⟨mConf.mkL a.frm (k), k + mConf.nL a.frm, mConf.mkL a.too (k + mConf.nL a.frm + 1)⟩, fun a => mConf.nL a.frm + 1 + mConf.nL a.too⟩
@[simp] theorem mLine_wr (a : TLine) (k : Int) : mLine.wr a k = ⟨mConf.mkL a.frm (k), k + mConf.nL a.frm, mConf.mkL a.too (k + mConf.nL a.frm + 1)⟩ := rfl
@[simp] theorem mLine_n (a : TLine) : mLine.n a = mConf.nL a.frm + 1 + mConf.nL a.too := rfl
end Go.Am
-- Store_y
namespace Go.Am
open Go.Proofs
set_option maxHeartbeats 4000000
set_option maxRecDepth 100000
attribute [-simp] rErr_len sErr_len shr_rErr shr_sErr shrs_rErr shrs_sErr noSh_rErr mErr_wr mErr_n rSlot_len sSlot_len shr_rSlot shr_sSlot shrs_rSlot shrs_sSlot noSh_rSlot mSlot_wr mSlot_n rNode_len sNode_len shr_rNode shr_sNode shrs_rNode shrs_sNode noSh_rNode mNode_wr mNode_n rTree_len sTree_len shr_rTree shr_sTree shrs_rTree shrs_sTree noSh_rTree mTree_wr mTree_n rRun_len sRun_len shr_rRun shr_sRun shrs_rRun shrs_sRun noSh_rRun mRun_wr mRun_n rJob_len sJob_len shr_rJob shr_sJob shrs_rJob shrs_sJob noSh_rJob mJob_wr mJob_n rOutcome_len sOutcome_len shr_rOutcome shr_sOutcome shrs_rOutcome shrs_sOutcome noSh_rOutcome mOutcome_wr mOutcome_n rTenant_len sTenant_len shr_rTenant shr_sTenant shrs_rTenant shrs_sTenant noSh_rTenant mTenant_wr mTenant_n map_rs_Slot map_rs_Err map_rs_Outcome uTenant_wr uTenant_n
structure TStore where
  cap : Int
  lines : List TLine
  deriving DecidableEq, Inhabited
def rStore (a : TStore) : List C := [cI a.cap, .ar true 119 3 (a.lines.map rLine)]
def sStore (a : TStore) : List C := [cI a.cap, .ar false 0 3 (a.lines.map sLine)]
def zStore : List C := [cI 0, .ar true 119 3 []]
@[simp] theorem rStore_len (a : TStore) : (rStore a).length = 2 := rfl
@[simp] theorem sStore_len (a : TStore) : (sStore a).length = 2 := rfl
@[simp] theorem shr_rStore (a : TStore) : shrRow (rStore a) = sStore a := by simp [rStore, sStore]
@[simp] theorem shr_sStore (a : TStore) : shrRow (sStore a) = sStore a := by simp [sStore]
@[simp] theorem shrs_rStore (xs : List TStore) : shrRows (xs.map rStore) = xs.map sStore := shrRows_of shr_rStore xs
@[simp] theorem shrs_sStore (xs : List TStore) : shrRows (xs.map sStore) = xs.map sStore := shrRows_of shr_sStore xs
@[simp] theorem noSh_rStore (xs : List TStore) : noShRows (xs.map rStore) = true := noSh_of (fun a => by simp [rStore]) xs
def wStore (a : TStore) : Nat := wL wLine a.lines
def lStore (a : TStore) : Prop := lL lLine a.lines
def mStore : Mk TStore := ⟨fun a k => ⟨k, mLine.mkL a.lines (k + 1)⟩, fun a => 1 + mLine.nL a.lines⟩
@[simp] theorem mStore_wr (a : TStore) (k : Int) : mStore.wr a k = ⟨k, mLine.mkL a.lines (k + 1)⟩ := rfl
@[simp] theorem mStore_n (a : TStore) : mStore.n a = 1 + mLine.nL a.lines := rfl
end Go.Am
-- Store_u
namespace Go.Am
open Go.Proofs
set_option maxHeartbeats 4000000
set_option maxRecDepth 100000
attribute [-simp] rErr_len sErr_len shr_rErr shr_sErr shrs_rErr shrs_sErr noSh_rErr mErr_wr mErr_n rSlot_len sSlot_len shr_rSlot shr_sSlot shrs_rSlot shrs_sSlot noSh_rSlot mSlot_wr mSlot_n rNode_len sNode_len shr_rNode shr_sNode shrs_rNode shrs_sNode noSh_rNode mNode_wr mNode_n rTree_len sTree_len shr_rTree shr_sTree shrs_rTree shrs_sTree noSh_rTree mTree_wr mTree_n rRun_len sRun_len shr_rRun shr_sRun shrs_rRun shrs_sRun noSh_rRun mRun_wr mRun_n rJob_len sJob_len shr_rJob shr_sJob shrs_rJob shrs_sJob noSh_rJob mJob_wr mJob_n rOutcome_len sOutcome_len shr_rOutcome shr_sOutcome shrs_rOutcome shrs_sOutcome noSh_rOutcome mOutcome_wr mOutcome_n rTenant_len sTenant_len shr_rTenant shr_sTenant shrs_rTenant shrs_sTenant noSh_rTenant mTenant_wr mTenant_n map_rs_Slot map_rs_Err map_rs_Outcome uTenant_wr uTenant_n
def vStore (a : TStore) : List C := [cI a.cap, .vw 119 3 1000 [] 0 a.lines.length]
def uStore : Mk TStore := ⟨fun a k => ⟨a.cap, mLine.mkL a.lines (k)⟩, fun a => mLine.nL a.lines⟩
@[simp] theorem uStore_wr (a : TStore) (k : Int) : uStore.wr a k = ⟨a.cap, mLine.mkL a.lines (k)⟩ := rfl
@[simp] theorem uStore_n (a : TStore) : uStore.n a = mLine.nL a.lines := rfl
end Go.Am
-- nbound
namespace Go.Am
open Go.Proofs
set_option maxHeartbeats 4000000
set_option maxRecDepth 100000
attribute [-simp] map_rs_Slot map_rs_Err map_rs_Outcome
theorem nL_le {α : Type} (M : Mk α) (w : α → Nat) (h : ∀ x, M.n x ≤ 16 * (1 + w x)) : ∀ xs : List α, M.nL xs ≤ 16 * wL w xs
  | [] => by simp [Mk.nL, wL]
  | x :: xs => by
    have h1 := h x
    have h2 := nL_le M w h xs
    simp only [Mk.nL, wL]
    omega
theorem nI_le (xs : List Int) : mI.nL xs ≤ 16 * wL w0 xs := nL_le mI w0 (fun x => by simp [mI]; omega) xs
theorem nSlot_le (xs : List TSlot) : mSlot.nL xs ≤ 16 * wL wSlot xs := nL_le _ _ (fun x => by rw [mSlot_n]; omega) xs
theorem nErr_le (xs : List TErr) : mErr.nL xs ≤ 16 * wL wErr xs := nL_le _ _ (fun x => by rw [mErr_n]; omega) xs
theorem nOutcome_le (xs : List TOutcome) : mOutcome.nL xs ≤ 16 * wL wOutcome xs := nL_le _ _ (fun x => by rw [mOutcome_n]; omega) xs
theorem nNode_le (xs : List TNode) : mNode.nL xs ≤ 16 * wL wNode xs := nL_le _ _ (fun x => by
  rw [mNode_n]
  have := nI_le x.kids
  simp only [wNode]
  omega) xs
theorem nJob_le (xs : List TJob) : mJob.nL xs ≤ 16 * wL wJob xs := nL_le _ _ (fun x => by
  rw [mJob_n]
  have h1 := nI_le x.input
  have h2 := nSlot_le x.run.slots
  have h3 := nNode_le x.run.tree.nodes
  have h4 := nErr_le x.run.errs
  simp only [wJob, wRun, wTree]
  omega) xs
theorem uTenant_le (a : TTenant) : uTenant.n a ≤ 16 * wTenant a := by
  rw [uTenant_n]
  have h1 := nJob_le a.queue
  have h2 := nOutcome_le a.out
  simp only [wTenant]
  omega
@[simp] theorem noSh_sOutcome (xs : List TOutcome) : noShRows (xs.map sOutcome) = true := noSh_rOutcome xs
@[simp] theorem noSh_sSlot (xs : List TSlot) : noShRows (xs.map sSlot) = true := noSh_rSlot xs
@[simp] theorem noSh_sErr (xs : List TErr) : noShRows (xs.map sErr) = true := noSh_rErr xs
@[simp] theorem noSh_tenant (a : TTenant) : noShRow (rTenant a) = true := by simp [rTenant]
end Go.Am
