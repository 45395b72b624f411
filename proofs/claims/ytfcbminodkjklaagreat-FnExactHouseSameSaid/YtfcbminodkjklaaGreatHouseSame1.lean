/- Text 1 of 2 for FnExactHouseSame: codes of the functions that it reaches and their contracts over trees. No condition. -/
import Derived.Test.YtfcbminodkjklaaGreatAm5
import Derived.Test.YtfcbminodkjklaaGreatProg
set_option linter.unusedVariables false
set_option linter.unusedSimpArgs false
namespace Go.Am
open Go.Proofs
noncomputable def PT : List (Nat × TI) := mkT Tryz.prog (List.range 317)
noncomputable def PF : List Nat := mkF Tryz.prog (List.range 272)
def PA : An := ⟨[], false, true, [(26, 0), (27, 0), (28, 0), (63, 0), (66, 0), (67, 0), (68, 0), (105, 0), (109, 0), (124, 0), (131, 1), (161, 0), (162, 0), (163, 0), (164, 0), (176, 0), (189, 0), (192, 0), (194, 0), (196, 0), (226, 0), (240, 0), (241, 0), (242, 0), (243, 0), (250, 0), (251, 0), (252, 0)], false, [(107, 1), (230, 3)]⟩
def PB : An := ⟨[], false, true, [(26, 0), (27, 0), (28, 0), (63, 0), (66, 0), (67, 0), (68, 0), (105, 0), (109, 0), (124, 0), (131, 1), (161, 0), (162, 0), (163, 0), (164, 0), (176, 0), (189, 0), (192, 0), (194, 0), (196, 0), (226, 0), (240, 0), (241, 0), (242, 0), (243, 0), (250, 0), (251, 0), (252, 0)], true, [(107, 1), (230, 3)]⟩
theorem Pmo : PA.mo = true → Tryz.prog.follows .mixedOrders = true := fun _ => by kernel_rfl
theorem PmoB : PB.mo = true → Tryz.prog.follows .mixedOrders = true := fun _ => by kernel_rfl
theorem Prun {f : FuncId} {k : K} {r : Nat × List RV} {args : List A} {v : A} (hc : cmpS PT PF PA (Tryz.prog.funcs[f]?) = some (r.1, r.2, stripK k)) (hn : args.length ≤ r.1) (hn2 : args.length ≤ 1000)
    (h : awp Tryz.prog k (FPost' r.2 fun a H => H = [] ∧ a = v) (entry args [])) : CallsF Tryz.prog f args v := callF_run (mkT_ok _ _) (mkF_ok _ _) PA Pmo hc hn hn2 h
theorem PrunA {f : FuncId} {k : K} {r : Nat × List RV} {args : List A} {H : List (Nat × Obj)} {R : A → List (Nat × Obj) → Prop} (hc : cmpS PT PF PA (Tryz.prog.funcs[f]?) = some (r.1, r.2, stripK k)) (hn : args.length ≤ r.1) (hn2 : args.length ≤ 1000)
    (h : awp Tryz.prog k (FPost' r.2 R) (entry args H)) : CallsA Tryz.prog f args H R := calls_runS (mkT_ok _ _) (mkF_ok _ _) PA Pmo hc hn hn2 h
theorem PfnOk (f : Nat) (h : PF.contains f = true) : FnOk Tryz.prog f := fnOk_of (mkF_ok _ _) h
theorem PrunB {f : FuncId} {k : K} {r : Nat × List RV} {args : List A} {H : List (Nat × Obj)} {R : A → List (Nat × Obj) → Prop} (hc : cmpS PT PF PB (Tryz.prog.funcs[f]?) = some (r.1, r.2, stripK k)) (hn : args.length ≤ r.1) (hn2 : args.length ≤ 1000)
    (h : awp Tryz.prog k (FPost' r.2 R) (entry args H)) : CallsA Tryz.prog f args H R := calls_runS (mkT_ok _ _) (mkF_ok _ _) PB PmoB hc hn hn2 h
end Go.Am
-- ints
namespace Go.Am
open Go.Proofs
set_option maxHeartbeats 4000000
set_option maxRecDepth 100000
-- 17 loop.example/g00485/laws.eqIntS
def k_laws_eqIntS : K :=
 .seq (
  .reg none [⟨(some 4), none, .asn (.c (.bool false))⟩]) (
 .seq (
  .seq (
   .reg none [⟨(some 6), none, .mv (.t 0)⟩,
     ⟨(some 7), none, .len (.t 6)⟩,
     ⟨(some 8), none, .mv (.t 1)⟩,
     ⟨(some 9), none, .len (.t 8)⟩,
     ⟨(some 10), none, .bin .neq (.t 7) (.t 9)⟩]) (
  .cond (.t 10) (
   .seq (
    .reg none [⟨(some 4), none, .asn (.c (.bool false))⟩]) (
   .ret)) (
   .skip))) (
 .seq (
  .seq (
   .reg none [⟨(some 5), none, .asn (.c (.int .i64 (0)))⟩]) (
  .block 0 (
   .loop (some ([0, 1, 5], [0, 1, 5, 1000])) (
    .seq (
     .seq (
      .reg none [⟨(some 11), none, .mv (.t 5)⟩,
        ⟨(some 12), none, .mv (.t 0)⟩,
        ⟨(some 13), none, .len (.t 12)⟩,
        ⟨(some 14), none, .bin .lss (.t 11) (.t 13)⟩]) (
     .cond (.t 14) (
      .skip) (
      .exit 0))) (
    .seq (
     .block 1 (
      .seq (
       .drw none 9 [⟨(some 17), none, .mv (.t 0)⟩,
         ⟨(some 18), none, .mv (.t 5)⟩,
         ⟨(some 19), none, .iad 1 (.t 17) (.t 18)⟩,
         ⟨(some 20), none, .ld 1 false (.t 19)⟩,
         ⟨(some 21), none, .mv (.t 1)⟩,
         ⟨(some 22), none, .mv (.t 5)⟩,
         ⟨(some 23), none, .iad 1 (.t 21) (.t 22)⟩,
         ⟨(some 24), none, .ld 1 false (.t 23)⟩,
         ⟨(some 25), none, .bin .neq (.t 20) (.t 24)⟩]) (
      .cond (.t 25) (
       .seq (
        .reg none [⟨(some 4), none, .asn (.c (.bool false))⟩]) (
       .ret)) (
       .skip)))) (
    .reg none [⟨(some 15), none, .mv (.t 5)⟩,
      ⟨(some 16), none, .bin .add (.t 15) (.c (.int .i64 (1)))⟩,
      ⟨(some 5), none, .asn (.t 16)⟩])))))) (
 .seq (
  .reg none [⟨(some 4), none, .asn (.c (.bool true))⟩]) (
 .ret))))
def r_laws_eqIntS : Nat × List RV := (26, [.t 4])

theorem c_laws_eqIntS : cmpS PT PF PA (Tryz.prog.funcs[17]?) = some (r_laws_eqIntS.1, r_laws_eqIntS.2, stripK k_laws_eqIntS) := by kernel_rfl

theorem h_eqIntS (xs : List Int) (hx : wL w0 xs < 2 ^ 40) : CallsF Tryz.prog 17 [.one (.ar false 0 1 (xs.map rI)), .one (.ar false 0 1 (xs.map rI))] (aB true) := by
  refine Prun c_laws_eqIntS (by simp [r_laws_eqIntS]) (by simp) ?_
  unfold k_laws_eqIntS r_laws_eqIntS
  rw [wL_w0] at hx
  simp
  refine awp_loop (fun n σ => ∃ i : Nat, i ≤ xs.length ∧ n = xs.length - i ∧ σ = ⟨[(0, .one (.ar false 0 1 (xs.map rI))), (1, .one (.ar false 0 1 (xs.map rI))), (5, aI i)], []⟩) (xs.length) ⟨0, by simp⟩ ?_
  rintro n σ ⟨i, hi, rfl, rfl⟩
  by_cases h : i < xs.length
  · simp [h]
    refine ⟨xs.length - (i + 1), by omega, i + 1, by omega, rfl, ?_⟩
    rw [wrapI (by omega) (by omega)]
    simp
  · simp [h]
-- 14 loop.example/g00485/laws.toIntS
def k_laws_toIntS : K :=
 .seq (
  .reg none [⟨(some 2), none, .asn (.c (.ar true 3 1 []))⟩]) (
 .seq (
  .reg none [⟨(some 5), none, .mv (.t 0)⟩,
    ⟨(some 6), none, .len (.t 5)⟩,
    ⟨(some 7), none, .mks 3 1 8 [(.int .i64 (0))] (.t 6) (.t 6)⟩,
    ⟨(some 3), none, .asn (.t 7)⟩]) (
 .seq (
  .seq (
   .reg none [⟨(some 4), none, .asn (.c (.int .i64 (0)))⟩]) (
  .block 0 (
   .loop (some ([0, 3, 4], [0, 3, 4, 1000])) (
    .seq (
     .seq (
      .reg none [⟨(some 8), none, .mv (.t 4)⟩,
        ⟨(some 9), none, .mv (.t 0)⟩,
        ⟨(some 10), none, .len (.t 9)⟩,
        ⟨(some 11), none, .bin .lss (.t 8) (.t 10)⟩]) (
     .cond (.t 11) (
      .skip) (
      .exit 0))) (
    .seq (
     .block 1 (
      .reg none [⟨(some 14), none, .mv (.t 3)⟩,
        ⟨(some 15), none, .mv (.t 4)⟩,
        ⟨(some 16), none, .mv (.t 0)⟩,
        ⟨(some 17), none, .mv (.t 4)⟩,
        ⟨(some 18), none, .iad 1 (.t 16) (.t 17)⟩,
        ⟨(some 19), none, .ld 1 false (.t 18)⟩,
        ⟨(some 20), none, .iad 1 (.t 14) (.t 15)⟩,
        ⟨none, none, .st 1 false (.t 20) (.t 19)⟩])) (
    .reg none [⟨(some 12), none, .mv (.t 4)⟩,
      ⟨(some 13), none, .bin .add (.t 12) (.c (.int .i64 (1)))⟩,
      ⟨(some 4), none, .asn (.t 13)⟩])))))) (
 .seq (
  .reg none [⟨(some 21), none, .mv (.t 3)⟩,
    ⟨(some 2), none, .asn (.t 21)⟩]) (
 .ret))))
def r_laws_toIntS : Nat × List RV := (22, [.t 2])

theorem c_laws_toIntS : cmpS PT PF PA (Tryz.prog.funcs[14]?) = some (r_laws_toIntS.1, r_laws_toIntS.2, stripK k_laws_toIntS) := by kernel_rfl

theorem h_toIntS (xs : List Int) (hx : wL w0 xs < 2 ^ 31) : CallsF Tryz.prog 14 [.one (.ar false 0 1 (xs.map rI))] (.one (.ar true 3 1 (xs.map rI))) := by
  refine Prun c_laws_toIntS (by simp [r_laws_toIntS]) (by simp) ?_
  unfold k_laws_toIntS r_laws_toIntS
  rw [wL_w0] at hx
  have hc : ((xs.length : Int) ≤ 4294967296) := by omega
  simp [hc]
  refine awp_loop (fun n σ => ∃ i : Nat, i ≤ xs.length ∧ n = xs.length - i ∧ σ = ⟨[(0, .one (.ar false 0 1 (xs.map rI))), (3, .one (.vw 3 1 3 [] 0 xs.length)), (4, aI i)], [(3, ⟨3, 1, part rI [.int .i64 0] xs i⟩)]⟩) (xs.length) ⟨0, by simp [part_zero]⟩ ?_
  rintro n σ ⟨i, hi, rfl, rfl⟩
  by_cases h : i < xs.length
  · simp [h, part_get h]
    refine ⟨xs.length - (i + 1), by omega, i + 1, by omega, rfl, ?_⟩
    rw [wrapI (by omega) (by omega)]
    have := part_set (r := rI) (z := [.int .i64 0]) h
    simp only [rI] at this
    simp [this]
  · have : i = xs.length := by omega
    subst this
    simp [part_all]
end Go.Am
-- SlE_int
namespace Go.Am
open Go.Proofs
set_option maxHeartbeats 4000000
set_option maxRecDepth 100000
-- 80 slices.Equal[[]int,int]
def k_slices_Equal_int_int : K :=
 .seq (
  .reg none [⟨(some 4), none, .asn (.c (.bool false))⟩]) (
 .seq (
  .seq (
   .reg none [⟨(some 6), none, .mv (.t 0)⟩,
     ⟨(some 7), none, .len (.t 6)⟩,
     ⟨(some 8), none, .mv (.t 1)⟩,
     ⟨(some 9), none, .len (.t 8)⟩,
     ⟨(some 10), none, .bin .neq (.t 7) (.t 9)⟩]) (
  .cond (.t 10) (
   .seq (
    .reg none [⟨(some 4), none, .asn (.c (.bool false))⟩]) (
   .ret)) (
   .skip))) (
 .seq (
  .seq (
   .reg none [⟨(some 11), none, .mv (.t 0)⟩,
     ⟨(some 12), none, .len (.t 11)⟩,
     ⟨(some 13), none, .mv (.c (.int .i64 (0)))⟩]) (
  .block 0 (
   .loop (some ([0, 1, 12, 13], [0, 1, 1000])) (
    .seq (
     .reg none [⟨(some 14), none, .bin .lss (.t 13) (.t 12)⟩]) (
    .seq (
     .cond (.t 14) (
      .skip) (
      .exit 0)) (
    .seq (
     .block 1 (
      .seq (
       .reg none [⟨(some 15), none, .mv (.t 13)⟩,
         ⟨(some 5), none, .asn (.t 15)⟩]) (
      .seq (
       .drw none 9 [⟨(some 16), none, .mv (.t 0)⟩,
         ⟨(some 17), none, .mv (.t 5)⟩,
         ⟨(some 18), none, .iad 1 (.t 16) (.t 17)⟩,
         ⟨(some 19), none, .ld 1 false (.t 18)⟩,
         ⟨(some 20), none, .mv (.t 1)⟩,
         ⟨(some 21), none, .mv (.t 5)⟩,
         ⟨(some 22), none, .iad 1 (.t 20) (.t 21)⟩,
         ⟨(some 23), none, .ld 1 false (.t 22)⟩,
         ⟨(some 24), none, .bin .neq (.t 19) (.t 23)⟩]) (
      .cond (.t 24) (
       .seq (
        .reg none [⟨(some 4), none, .asn (.c (.bool false))⟩]) (
       .ret)) (
       .skip))))) (
    .reg none [⟨(some 25), none, .bin .add (.t 13) (.c (.int .i64 (1)))⟩,
      ⟨(some 13), none, .mv (.t 25)⟩]))))))) (
 .seq (
  .reg none [⟨(some 4), none, .asn (.c (.bool true))⟩]) (
 .ret))))
def r_slices_Equal_int_int : Nat × List RV := (26, [.t 4])

theorem c_slices_Equal_int_int : cmpS PT PF PA (Tryz.prog.funcs[80]?) = some (r_slices_Equal_int_int.1, r_slices_Equal_int_int.2, stripK k_slices_Equal_int_int) := by kernel_rfl

theorem h_SlE_int (xs ys : List Int) (hx : xs.length < 2 ^ 40) :
    CallsF Tryz.prog 80 [.one (.ar false 0 1 (xs.map rI)), .one (.ar false 0 1 (ys.map rI))] (aB (decide (xs = ys))) := by
  refine Prun c_slices_Equal_int_int (by simp [r_slices_Equal_int_int]) (by simp) ?_
  unfold k_slices_Equal_int_int r_slices_Equal_int_int
  by_cases hl : xs.length = ys.length
  · simp [hl]
    refine awp_loop (fun n σ => ∃ i : Nat, i ≤ xs.length ∧ n = xs.length - i ∧ xs.take i = ys.take i ∧ σ = ⟨[(0, .one (.ar false 0 1 (xs.map rI))), (1, .one (.ar false 0 1 (ys.map rI))), (12, aI xs.length), (13, aI i)], []⟩) (xs.length) ⟨0, by simp [hl]⟩ ?_
    rintro n σ ⟨i, hi, rfl, ht, rfl⟩
    by_cases h : i < xs.length
    · have h2 : i < ys.length := by omega
      by_cases he : xs[i] = ys[i]
      · simp [h, h2, rI, he]
        refine ⟨xs.length - (i + 1), by omega, i + 1, by omega, rfl, (take_step h h2).2 ⟨ht, he⟩, ?_⟩
        rw [wrapI (by omega) (by omega)]
        simp [rI]
      · simp [h, h2, rI, he]
        intro hh
        subst hh
        exact he rfl
    · simp [h]
      have : i = xs.length := by omega
      rw [this, List.take_length, hl, List.take_length] at ht
      exact ht
  · have : ¬ (xs.length : Int) = ys.length := by omega
    simp [this]
    rintro rfl
    exact hl rfl
end Go.Am
-- Slot_y
namespace Go.Am
open Go.Proofs
set_option maxHeartbeats 4000000
set_option maxRecDepth 100000
structure TSlot where
  sym : Int
  up : Int
  deriving DecidableEq, Inhabited
def rSlot (a : TSlot) : List C := [cI a.sym, cI a.up]
def sSlot (a : TSlot) : List C := [cI a.sym, cI a.up]
def zSlot : List C := [cI 0, cI 0]
@[simp] theorem rSlot_len (a : TSlot) : (rSlot a).length = 2 := rfl
@[simp] theorem sSlot_len (a : TSlot) : (sSlot a).length = 2 := rfl
@[simp] theorem shr_rSlot (a : TSlot) : shrRow (rSlot a) = sSlot a := by simp [rSlot, sSlot]
@[simp] theorem shr_sSlot (a : TSlot) : shrRow (sSlot a) = sSlot a := by simp [sSlot]
@[simp] theorem shrs_rSlot (xs : List TSlot) : shrRows (xs.map rSlot) = xs.map sSlot := shrRows_of shr_rSlot xs
@[simp] theorem shrs_sSlot (xs : List TSlot) : shrRows (xs.map sSlot) = xs.map sSlot := shrRows_of shr_sSlot xs
@[simp] theorem noSh_rSlot (xs : List TSlot) : noShRows (xs.map rSlot) = true := noSh_of (fun a => by simp [rSlot]) xs
def wSlot (_ : TSlot) : Nat := 0
def lSlot (_ : TSlot) : Prop := True
def mSlot : Mk TSlot := ⟨fun _ k => ⟨k, k + 1⟩, fun _ => 1 + 1⟩
@[simp] theorem mSlot_wr (a : TSlot) (k : Int) : mSlot.wr a k = ⟨k, k + 1⟩ := rfl
@[simp] theorem mSlot_n (a : TSlot) : mSlot.n a = 1 + 1 := rfl
end Go.Am
-- SlE_Slot
namespace Go.Am
open Go.Proofs
set_option maxHeartbeats 4000000
set_option maxRecDepth 100000
-- 147 slices.Equal[[]loop.example/g00485/impl.Slot,loop.example/g00485/impl.Slot]
def k_slices_Equal_impl_Slot_impl_Slot : K :=
 .seq (
  .reg none [⟨(some 4), none, .asn (.c (.bool false))⟩]) (
 .seq (
  .seq (
   .reg none [⟨(some 6), none, .mv (.t 0)⟩,
     ⟨(some 7), none, .len (.t 6)⟩,
     ⟨(some 8), none, .mv (.t 1)⟩,
     ⟨(some 9), none, .len (.t 8)⟩,
     ⟨(some 10), none, .bin .neq (.t 7) (.t 9)⟩]) (
  .cond (.t 10) (
   .seq (
    .reg none [⟨(some 4), none, .asn (.c (.bool false))⟩]) (
   .ret)) (
   .skip))) (
 .seq (
  .seq (
   .reg none [⟨(some 11), none, .mv (.t 0)⟩,
     ⟨(some 12), none, .len (.t 11)⟩,
     ⟨(some 13), none, .mv (.c (.int .i64 (0)))⟩]) (
  .block 0 (
   .loop (some ([0, 1, 12, 13], [0, 1, 1000])) (
    .seq (
     .reg none [⟨(some 14), none, .bin .lss (.t 13) (.t 12)⟩]) (
    .seq (
     .cond (.t 14) (
      .skip) (
      .exit 0)) (
    .seq (
     .block 1 (
      .seq (
       .reg none [⟨(some 15), none, .mv (.t 13)⟩,
         ⟨(some 5), none, .asn (.t 15)⟩]) (
      .seq (
       .drw none 9 [⟨(some 16), none, .mv (.t 0)⟩,
         ⟨(some 17), none, .mv (.t 5)⟩,
         ⟨(some 18), none, .iad 2 (.t 16) (.t 17)⟩,
         ⟨(some 19), none, .ld 2 true (.t 18)⟩,
         ⟨(some 20), none, .mv (.t 1)⟩,
         ⟨(some 21), none, .mv (.t 5)⟩,
         ⟨(some 22), none, .iad 2 (.t 20) (.t 21)⟩,
         ⟨(some 23), none, .ld 2 true (.t 22)⟩,
         ⟨(some 24), none, .sqe true [false, false] (.t 19) (.t 23)⟩]) (
      .cond (.t 24) (
       .seq (
        .reg none [⟨(some 4), none, .asn (.c (.bool false))⟩]) (
       .ret)) (
       .skip))))) (
    .reg none [⟨(some 25), none, .bin .add (.t 13) (.c (.int .i64 (1)))⟩,
      ⟨(some 13), none, .mv (.t 25)⟩]))))))) (
 .seq (
  .reg none [⟨(some 4), none, .asn (.c (.bool true))⟩]) (
 .ret))))
def r_slices_Equal_impl_Slot_impl_Slot : Nat × List RV := (26, [.t 4])

theorem c_slices_Equal_impl_Slot_impl_Slot : cmpS PT PF PA (Tryz.prog.funcs[147]?) = some (r_slices_Equal_impl_Slot_impl_Slot.1, r_slices_Equal_impl_Slot_impl_Slot.2, stripK k_slices_Equal_impl_Slot_impl_Slot) := by kernel_rfl

theorem h_SlE_Slot (xs ys : List TSlot) (hx : xs.length < 2 ^ 40) :
    CallsF Tryz.prog 147 [.one (.ar false 0 2 (xs.map sSlot)), .one (.ar false 0 2 (ys.map sSlot))] (aB (decide (xs = ys))) := by
  refine Prun c_slices_Equal_impl_Slot_impl_Slot (by simp [r_slices_Equal_impl_Slot_impl_Slot]) (by simp) ?_
  unfold k_slices_Equal_impl_Slot_impl_Slot r_slices_Equal_impl_Slot_impl_Slot
  by_cases hl : xs.length = ys.length
  · simp [hl]
    refine awp_loop (fun n σ => ∃ i : Nat, i ≤ xs.length ∧ n = xs.length - i ∧ xs.take i = ys.take i ∧ σ = ⟨[(0, .one (.ar false 0 2 (xs.map sSlot))), (1, .one (.ar false 0 2 (ys.map sSlot))), (12, aI xs.length), (13, aI i)], []⟩) (xs.length) ⟨0, by simp [hl]⟩ ?_
    rintro n σ ⟨i, hi, rfl, ht, rfl⟩
    by_cases h : i < xs.length
    · have h2 : i < ys.length := by omega
      rcases ea : xs[i] with ⟨x0, x1⟩
      rcases eb : ys[i] with ⟨y0, y1⟩
      have hfin : xs = ys → (⟨x0, x1⟩ : TSlot) = ⟨y0, y1⟩ := fun hh => by subst hh; rw [← ea, ← eb]
      by_cases q0 : x0 = y0
      case neg =>
        simp [h, h2, sSlot, ea, eb, q0]
        intro hh
        have := hfin hh
        simp at this
        simp_all
      by_cases q1 : x1 = y1
      case neg =>
        simp [h, h2, sSlot, ea, eb, q0, q1]
        intro hh
        have := hfin hh
        simp at this
        simp_all
      have e0 : x0 = y0 := q0
      have e1 : x1 = y1 := q1
      have he : xs[i] = ys[i] := by rw [ea, eb]; simp [e0, e1]
      simp [h, h2, sSlot, ea, eb, q0, q1]
      refine ⟨xs.length - (i + 1), by omega, i + 1, by omega, rfl, (take_step h h2).2 ⟨ht, he⟩, ?_⟩
      rw [wrapI (by omega) (by omega)]
      simp
    · simp [h]
      have : i = xs.length := by omega
      rw [this, List.take_length, hl, List.take_length] at ht
      exact ht
  · have : ¬ (xs.length : Int) = ys.length := by omega
    simp [this]
    rintro rfl
    exact hl rfl
end Go.Am
-- Err_y
namespace Go.Am
open Go.Proofs
set_option maxHeartbeats 4000000
set_option maxRecDepth 100000
structure TErr where
  kind : Int
  pos : Int
  sym : Int
  deriving DecidableEq, Inhabited
def rErr (a : TErr) : List C := [cI a.kind, cI a.pos, cI a.sym]
def sErr (a : TErr) : List C := [cI a.kind, cI a.pos, cI a.sym]
def zErr : List C := [cI 0, cI 0, cI 0]
@[simp] theorem rErr_len (a : TErr) : (rErr a).length = 3 := rfl
@[simp] theorem sErr_len (a : TErr) : (sErr a).length = 3 := rfl
@[simp] theorem shr_rErr (a : TErr) : shrRow (rErr a) = sErr a := by simp [rErr, sErr]
@[simp] theorem shr_sErr (a : TErr) : shrRow (sErr a) = sErr a := by simp [sErr]
@[simp] theorem shrs_rErr (xs : List TErr) : shrRows (xs.map rErr) = xs.map sErr := shrRows_of shr_rErr xs
@[simp] theorem shrs_sErr (xs : List TErr) : shrRows (xs.map sErr) = xs.map sErr := shrRows_of shr_sErr xs
@[simp] theorem noSh_rErr (xs : List TErr) : noShRows (xs.map rErr) = true := noSh_of (fun a => by simp [rErr]) xs
def wErr (_ : TErr) : Nat := 0
def lErr (_ : TErr) : Prop := True
def mErr : Mk TErr := ⟨fun _ k => ⟨k, k + 1, k + 1 + 1⟩, fun _ => 1 + 1 + 1⟩
@[simp] theorem mErr_wr (a : TErr) (k : Int) : mErr.wr a k = ⟨k, k + 1, k + 1 + 1⟩ := rfl
@[simp] theorem mErr_n (a : TErr) : mErr.n a = 1 + 1 + 1 := rfl
end Go.Am
-- SlE_Err
namespace Go.Am
open Go.Proofs
set_option maxHeartbeats 4000000
set_option maxRecDepth 100000
-- 148 slices.Equal[[]loop.example/g00485/impl.Err,loop.example/g00485/impl.Err]
def k_slices_Equal_impl_Err_impl_Err : K :=
 .seq (
  .reg none [⟨(some 4), none, .asn (.c (.bool false))⟩]) (
 .seq (
  .seq (
   .reg none [⟨(some 6), none, .mv (.t 0)⟩,
     ⟨(some 7), none, .len (.t 6)⟩,
     ⟨(some 8), none, .mv (.t 1)⟩,
     ⟨(some 9), none, .len (.t 8)⟩,
     ⟨(some 10), none, .bin .neq (.t 7) (.t 9)⟩]) (
  .cond (.t 10) (
   .seq (
    .reg none [⟨(some 4), none, .asn (.c (.bool false))⟩]) (
   .ret)) (
   .skip))) (
 .seq (
  .seq (
   .reg none [⟨(some 11), none, .mv (.t 0)⟩,
     ⟨(some 12), none, .len (.t 11)⟩,
     ⟨(some 13), none, .mv (.c (.int .i64 (0)))⟩]) (
  .block 0 (
   .loop (some ([0, 1, 12, 13], [0, 1, 1000])) (
    .seq (
     .reg none [⟨(some 14), none, .bin .lss (.t 13) (.t 12)⟩]) (
    .seq (
     .cond (.t 14) (
      .skip) (
      .exit 0)) (
    .seq (
     .block 1 (
      .seq (
       .reg none [⟨(some 15), none, .mv (.t 13)⟩,
         ⟨(some 5), none, .asn (.t 15)⟩]) (
      .seq (
       .drw none 9 [⟨(some 16), none, .mv (.t 0)⟩,
         ⟨(some 17), none, .mv (.t 5)⟩,
         ⟨(some 18), none, .iad 3 (.t 16) (.t 17)⟩,
         ⟨(some 19), none, .ld 3 true (.t 18)⟩,
         ⟨(some 20), none, .mv (.t 1)⟩,
         ⟨(some 21), none, .mv (.t 5)⟩,
         ⟨(some 22), none, .iad 3 (.t 20) (.t 21)⟩,
         ⟨(some 23), none, .ld 3 true (.t 22)⟩,
         ⟨(some 24), none, .sqe true [false, false, false] (.t 19) (.t 23)⟩]) (
      .cond (.t 24) (
       .seq (
        .reg none [⟨(some 4), none, .asn (.c (.bool false))⟩]) (
       .ret)) (
       .skip))))) (
    .reg none [⟨(some 25), none, .bin .add (.t 13) (.c (.int .i64 (1)))⟩,
      ⟨(some 13), none, .mv (.t 25)⟩]))))))) (
 .seq (
  .reg none [⟨(some 4), none, .asn (.c (.bool true))⟩]) (
 .ret))))
def r_slices_Equal_impl_Err_impl_Err : Nat × List RV := (26, [.t 4])

theorem c_slices_Equal_impl_Err_impl_Err : cmpS PT PF PA (Tryz.prog.funcs[148]?) = some (r_slices_Equal_impl_Err_impl_Err.1, r_slices_Equal_impl_Err_impl_Err.2, stripK k_slices_Equal_impl_Err_impl_Err) := by kernel_rfl

theorem h_SlE_Err (xs ys : List TErr) (hx : xs.length < 2 ^ 40) :
    CallsF Tryz.prog 148 [.one (.ar false 0 3 (xs.map sErr)), .one (.ar false 0 3 (ys.map sErr))] (aB (decide (xs = ys))) := by
  refine Prun c_slices_Equal_impl_Err_impl_Err (by simp [r_slices_Equal_impl_Err_impl_Err]) (by simp) ?_
  unfold k_slices_Equal_impl_Err_impl_Err r_slices_Equal_impl_Err_impl_Err
  by_cases hl : xs.length = ys.length
  · simp [hl]
    refine awp_loop (fun n σ => ∃ i : Nat, i ≤ xs.length ∧ n = xs.length - i ∧ xs.take i = ys.take i ∧ σ = ⟨[(0, .one (.ar false 0 3 (xs.map sErr))), (1, .one (.ar false 0 3 (ys.map sErr))), (12, aI xs.length), (13, aI i)], []⟩) (xs.length) ⟨0, by simp [hl]⟩ ?_
    rintro n σ ⟨i, hi, rfl, ht, rfl⟩
    by_cases h : i < xs.length
    · have h2 : i < ys.length := by omega
      rcases ea : xs[i] with ⟨x0, x1, x2⟩
      rcases eb : ys[i] with ⟨y0, y1, y2⟩
      have hfin : xs = ys → (⟨x0, x1, x2⟩ : TErr) = ⟨y0, y1, y2⟩ := fun hh => by subst hh; rw [← ea, ← eb]
      by_cases q0 : x0 = y0
      case neg =>
        simp [h, h2, sErr, ea, eb, q0]
        intro hh
        have := hfin hh
        simp at this
        simp_all
      by_cases q1 : x1 = y1
      case neg =>
        simp [h, h2, sErr, ea, eb, q0, q1]
        intro hh
        have := hfin hh
        simp at this
        simp_all
      by_cases q2 : x2 = y2
      case neg =>
        simp [h, h2, sErr, ea, eb, q0, q1, q2]
        intro hh
        have := hfin hh
        simp at this
        simp_all
      have e0 : x0 = y0 := q0
      have e1 : x1 = y1 := q1
      have e2 : x2 = y2 := q2
      have he : xs[i] = ys[i] := by rw [ea, eb]; simp [e0, e1, e2]
      simp [h, h2, sErr, ea, eb, q0, q1, q2]
      refine ⟨xs.length - (i + 1), by omega, i + 1, by omega, rfl, (take_step h h2).2 ⟨ht, he⟩, ?_⟩
      rw [wrapI (by omega) (by omega)]
      simp
    · simp [h]
      have : i = xs.length := by omega
      rw [this, List.take_length, hl, List.take_length] at ht
      exact ht
  · have : ¬ (xs.length : Int) = ys.length := by omega
    simp [this]
    rintro rfl
    exact hl rfl
end Go.Am
-- Outcome_y
namespace Go.Am
open Go.Proofs
set_option maxHeartbeats 4000000
set_option maxRecDepth 100000
structure TOutcome where
  ticket : Int
  code : Int
  text : ByteArray
  deriving DecidableEq, Inhabited
def rOutcome (a : TOutcome) : List C := [cI a.ticket, cI a.code, .str a.text]
def sOutcome (a : TOutcome) : List C := [cI a.ticket, cI a.code, .str a.text]
def zOutcome : List C := [cI 0, cI 0, .str ⟨#[]⟩]
@[simp] theorem rOutcome_len (a : TOutcome) : (rOutcome a).length = 3 := rfl
@[simp] theorem sOutcome_len (a : TOutcome) : (sOutcome a).length = 3 := rfl
@[simp] theorem shr_rOutcome (a : TOutcome) : shrRow (rOutcome a) = sOutcome a := by simp [rOutcome, sOutcome]
@[simp] theorem shr_sOutcome (a : TOutcome) : shrRow (sOutcome a) = sOutcome a := by simp [sOutcome]
@[simp] theorem shrs_rOutcome (xs : List TOutcome) : shrRows (xs.map rOutcome) = xs.map sOutcome := shrRows_of shr_rOutcome xs
@[simp] theorem shrs_sOutcome (xs : List TOutcome) : shrRows (xs.map sOutcome) = xs.map sOutcome := shrRows_of shr_sOutcome xs
@[simp] theorem noSh_rOutcome (xs : List TOutcome) : noShRows (xs.map rOutcome) = true := noSh_of (fun a => by simp [rOutcome]) xs
def wOutcome (a : TOutcome) : Nat := a.text.size
def lOutcome (a : TOutcome) : Prop := a.text.size < 2 ^ 63
def mOutcome : Mk TOutcome := ⟨fun _ k => ⟨k, k + 1, mtx (k + 1 + 1)⟩, fun _ => 1 + 1 + 1⟩
@[simp] theorem mOutcome_wr (a : TOutcome) (k : Int) : mOutcome.wr a k = ⟨k, k + 1, mtx (k + 1 + 1)⟩ := rfl
@[simp] theorem mOutcome_n (a : TOutcome) : mOutcome.n a = 1 + 1 + 1 := rfl
end Go.Am
-- SlE_Outcome
namespace Go.Am
open Go.Proofs
set_option maxHeartbeats 4000000
set_option maxRecDepth 100000
-- 85 slices.Equal[[]loop.example/g00485/impl.Outcome,loop.example/g00485/impl.Outcome]
def k_slices_Equal_impl_Outcome_impl_Outcome : K :=
 .seq (
  .reg none [⟨(some 4), none, .asn (.c (.bool false))⟩]) (
 .seq (
  .seq (
   .reg none [⟨(some 6), none, .mv (.t 0)⟩,
     ⟨(some 7), none, .len (.t 6)⟩,
     ⟨(some 8), none, .mv (.t 1)⟩,
     ⟨(some 9), none, .len (.t 8)⟩,
     ⟨(some 10), none, .bin .neq (.t 7) (.t 9)⟩]) (
  .cond (.t 10) (
   .seq (
    .reg none [⟨(some 4), none, .asn (.c (.bool false))⟩]) (
   .ret)) (
   .skip))) (
 .seq (
  .seq (
   .reg none [⟨(some 11), none, .mv (.t 0)⟩,
     ⟨(some 12), none, .len (.t 11)⟩,
     ⟨(some 13), none, .mv (.c (.int .i64 (0)))⟩]) (
  .block 0 (
   .loop (some ([0, 1, 12, 13], [0, 1, 1000])) (
    .seq (
     .reg none [⟨(some 14), none, .bin .lss (.t 13) (.t 12)⟩]) (
    .seq (
     .cond (.t 14) (
      .skip) (
      .exit 0)) (
    .seq (
     .block 1 (
      .seq (
       .reg none [⟨(some 15), none, .mv (.t 13)⟩,
         ⟨(some 5), none, .asn (.t 15)⟩]) (
      .seq (
       .drw none 9 [⟨(some 16), none, .mv (.t 0)⟩,
         ⟨(some 17), none, .mv (.t 5)⟩,
         ⟨(some 18), none, .iad 3 (.t 16) (.t 17)⟩,
         ⟨(some 19), none, .ld 3 true (.t 18)⟩,
         ⟨(some 20), none, .mv (.t 1)⟩,
         ⟨(some 21), none, .mv (.t 5)⟩,
         ⟨(some 22), none, .iad 3 (.t 20) (.t 21)⟩,
         ⟨(some 23), none, .ld 3 true (.t 22)⟩,
         ⟨(some 24), none, .sqe true [false, false, true] (.t 19) (.t 23)⟩]) (
      .cond (.t 24) (
       .seq (
        .reg none [⟨(some 4), none, .asn (.c (.bool false))⟩]) (
       .ret)) (
       .skip))))) (
    .reg none [⟨(some 25), none, .bin .add (.t 13) (.c (.int .i64 (1)))⟩,
      ⟨(some 13), none, .mv (.t 25)⟩]))))))) (
 .seq (
  .reg none [⟨(some 4), none, .asn (.c (.bool true))⟩]) (
 .ret))))
def r_slices_Equal_impl_Outcome_impl_Outcome : Nat × List RV := (26, [.t 4])

theorem c_slices_Equal_impl_Outcome_impl_Outcome : cmpS PT PF PA (Tryz.prog.funcs[85]?) = some (r_slices_Equal_impl_Outcome_impl_Outcome.1, r_slices_Equal_impl_Outcome_impl_Outcome.2, stripK k_slices_Equal_impl_Outcome_impl_Outcome) := by kernel_rfl

theorem h_SlE_Outcome (xs ys : List TOutcome) (hx : xs.length < 2 ^ 40) :
    CallsF Tryz.prog 85 [.one (.ar false 0 3 (xs.map sOutcome)), .one (.ar false 0 3 (ys.map sOutcome))] (aB (decide (xs = ys))) := by
  refine Prun c_slices_Equal_impl_Outcome_impl_Outcome (by simp [r_slices_Equal_impl_Outcome_impl_Outcome]) (by simp) ?_
  unfold k_slices_Equal_impl_Outcome_impl_Outcome r_slices_Equal_impl_Outcome_impl_Outcome
  by_cases hl : xs.length = ys.length
  · simp [hl]
    refine awp_loop (fun n σ => ∃ i : Nat, i ≤ xs.length ∧ n = xs.length - i ∧ xs.take i = ys.take i ∧ σ = ⟨[(0, .one (.ar false 0 3 (xs.map sOutcome))), (1, .one (.ar false 0 3 (ys.map sOutcome))), (12, aI xs.length), (13, aI i)], []⟩) (xs.length) ⟨0, by simp [hl]⟩ ?_
    rintro n σ ⟨i, hi, rfl, ht, rfl⟩
    by_cases h : i < xs.length
    · have h2 : i < ys.length := by omega
      rcases ea : xs[i] with ⟨x0, x1, x2⟩
      rcases eb : ys[i] with ⟨y0, y1, y2⟩
      have hfin : xs = ys → (⟨x0, x1, x2⟩ : TOutcome) = ⟨y0, y1, y2⟩ := fun hh => by subst hh; rw [← ea, ← eb]
      by_cases q0 : x0 = y0
      case neg =>
        simp [h, h2, sOutcome, ea, eb, q0]
        intro hh
        have := hfin hh
        simp at this
        simp_all
      by_cases q1 : x1 = y1
      case neg =>
        simp [h, h2, sOutcome, ea, eb, q0, q1]
        intro hh
        have := hfin hh
        simp at this
        simp_all
      by_cases q2 : (x2.toList == y2.toList) = true
      case neg =>
        have q2 : (x2.toList == y2.toList) = false := by simpa using q2
        simp [h, h2, sOutcome, ea, eb, q0, q1, q2]
        intro hh
        have := hfin hh
        simp at this
        simp_all
      have e0 : x0 = y0 := q0
      have e1 : x1 = y1 := q1
      have e2 : x2 = y2 := ByteArray.ext (by have := congrArg List.toArray (eq_of_beq q2); simpa [ByteArray.toList_eq] using this)
      have he : xs[i] = ys[i] := by rw [ea, eb]; simp [e0, e1, e2]
      simp [h, h2, sOutcome, ea, eb, q0, q1, q2]
      refine ⟨xs.length - (i + 1), by omega, i + 1, by omega, rfl, (take_step h h2).2 ⟨ht, he⟩, ?_⟩
      rw [wrapI (by omega) (by omega)]
      simp
    · simp [h]
      have : i = xs.length := by omega
      rw [this, List.take_length, hl, List.take_length] at ht
      exact ht
  · have : ¬ (xs.length : Int) = ys.length := by omega
    simp [this]
    rintro rfl
    exact hl rfl
end Go.Am
-- IntSS
namespace Go.Am
open Go.Proofs
set_option maxHeartbeats 4000000
set_option maxRecDepth 100000
def rIS (a : List Int) : List C := [.ar true 3 1 (a.map rI)]
def sIS (a : List Int) : List C := [.ar false 0 1 (a.map rI)]
def zIS : List C := [.ar true 3 1 []]
@[simp] theorem rIS_len (a : List Int) : (rIS a).length = 1 := rfl
@[simp] theorem sIS_len (a : List Int) : (sIS a).length = 1 := rfl
@[simp] theorem shr_rIS (a : List Int) : shrRow (rIS a) = sIS a := by simp [rIS, sIS]
@[simp] theorem shr_sIS (a : List Int) : shrRow (sIS a) = sIS a := by simp [sIS]
@[simp] theorem shrs_rIS (xs : List (List Int)) : shrRows (xs.map rIS) = xs.map sIS := shrRows_of shr_rIS xs
@[simp] theorem shrs_sIS (xs : List (List Int)) : shrRows (xs.map sIS) = xs.map sIS := shrRows_of shr_sIS xs
@[simp] theorem noSh_rIS (xs : List (List Int)) : noShRows (xs.map rIS) = true := noSh_of (fun a => by simp [rIS]) xs
end Go.Am
-- EqF_IS
namespace Go.Am
open Go.Proofs
set_option maxHeartbeats 4000000
set_option maxRecDepth 100000
-- 79 slices.EqualFunc[[][]int,[][]int,[]int,[]int]
def k_slices_EqualFunc_A2_int_A2_int_int_int : K :=
 .seq (
  .reg none [⟨(some 6), none, .asn (.c (.bool false))⟩]) (
 .seq (
  .seq (
   .reg none [⟨(some 10), none, .mv (.t 0)⟩,
     ⟨(some 11), none, .len (.t 10)⟩,
     ⟨(some 12), none, .mv (.t 1)⟩,
     ⟨(some 13), none, .len (.t 12)⟩,
     ⟨(some 14), none, .bin .neq (.t 11) (.t 13)⟩]) (
  .cond (.t 14) (
   .seq (
    .reg none [⟨(some 6), none, .asn (.c (.bool false))⟩]) (
   .ret)) (
   .skip))) (
 .seq (
  .seq (
   .reg none [⟨(some 15), none, .mv (.t 0)⟩,
     ⟨(some 16), none, .len (.t 15)⟩,
     ⟨(some 17), none, .mv (.c (.int .i64 (0)))⟩]) (
  .block 0 (
   .loop (some ([1, 2, 15, 16, 17], [0, 1, 2, 1000])) (
    .seq (
     .reg none [⟨(some 18), none, .bin .lss (.t 17) (.t 16)⟩]) (
    .seq (
     .cond (.t 18) (
      .skip) (
      .exit 0)) (
    .seq (
     .block 1 (
      .seq (
       .reg none [⟨(some 19), none, .mv (.t 17)⟩,
         ⟨(some 20), none, .iad 1 (.t 15) (.t 17)⟩,
         ⟨(some 21), none, .ld 1 false (.t 20)⟩,
         ⟨(some 7), none, .asn (.t 19)⟩,
         ⟨(some 8), none, .asn (.t 21)⟩]) (
      .seq (
       .reg none [⟨(some 22), none, .mv (.t 1)⟩,
         ⟨(some 23), none, .mv (.t 7)⟩,
         ⟨(some 24), none, .iad 1 (.t 22) (.t 23)⟩,
         ⟨(some 25), none, .ld 1 false (.t 24)⟩,
         ⟨(some 9), none, .asn (.t 25)⟩]) (
      .seq (
       .reg none [⟨(some 26), none, .mv (.t 2)⟩,
         ⟨(some 27), none, .mv (.t 8)⟩,
         ⟨(some 28), none, .mv (.t 9)⟩,
         ⟨(some 29), none, .callv (.t 26) [(.t 27), (.t 28)]⟩,
         ⟨(some 30), none, .not (.t 29)⟩]) (
      .cond (.t 30) (
       .seq (
        .reg none [⟨(some 6), none, .asn (.c (.bool false))⟩]) (
       .ret)) (
       .skip)))))) (
    .reg none [⟨(some 31), none, .bin .add (.t 17) (.c (.int .i64 (1)))⟩,
      ⟨(some 17), none, .mv (.t 31)⟩]))))))) (
 .seq (
  .reg none [⟨(some 6), none, .asn (.c (.bool true))⟩]) (
 .ret))))
def r_slices_EqualFunc_A2_int_A2_int_int_int : Nat × List RV := (32, [.t 6])

theorem c_slices_EqualFunc_A2_int_A2_int_int_int : cmpS PT PF PA (Tryz.prog.funcs[79]?) = some (r_slices_EqualFunc_A2_int_A2_int_int_int.1, r_slices_EqualFunc_A2_int_A2_int_int_int.2, stripK k_slices_EqualFunc_A2_int_A2_int_int_int) := by kernel_rfl

theorem h_EqF_IS (f : Nat) (hf : PF.contains f = true) (xs ys : List (List Int)) (hx : xs.length < 2 ^ 40) (hc : ∀ i j (h : i < xs.length) (h2 : j < ys.length), CallsF Tryz.prog f [.one (.ar false 0 1 (xs[i].map rI)), .one (.ar false 0 1 (ys[j].map rI))] (aB (decide (xs[i] = ys[j])))) :
    CallsF Tryz.prog 79 [.one (.ar false 0 1 (xs.map sIS)), .one (.ar false 0 1 (ys.map sIS)), .one (.fn f [])] (aB (decide (xs = ys))) := by
  refine Prun c_slices_EqualFunc_A2_int_A2_int_int_int (by simp [r_slices_EqualFunc_A2_int_A2_int_int_int]) (by simp) ?_
  unfold k_slices_EqualFunc_A2_int_A2_int_int_int r_slices_EqualFunc_A2_int_A2_int_int_int
  have hok := PfnOk f hf
  by_cases hl : xs.length = ys.length
  · simp [hl]
    refine awp_loop (fun n σ => ∃ i : Nat, i ≤ xs.length ∧ n = xs.length - i ∧ xs.take i = ys.take i ∧ σ = ⟨[(1, .one (.ar false 0 1 (ys.map sIS))), (2, .one (.fn f [])), (15, .one (.ar false 0 1 (xs.map sIS))), (16, aI xs.length), (17, aI i)], []⟩) (xs.length) ⟨0, by simp [hl]⟩ ?_
    rintro n σ ⟨i, hi, rfl, ht, rfl⟩
    by_cases h : i < xs.length
    · have h2 : i < ys.length := by omega
      simp [h, h2, sIS, hok]
      refine callG_F (hc i i h h2) (by simp) ?_
      by_cases he : xs[i] = ys[i]
      · simp [he]
        refine ⟨xs.length - (i + 1), by omega, i + 1, by omega, rfl, (take_step h h2).2 ⟨ht, he⟩, ?_⟩
        rw [wrapI (by omega) (by omega)]
        simp
      · simp [he]
        intro hh
        subst hh
        exact he rfl
    · simp [h]
      have : i = xs.length := by omega
      rw [this, List.take_length, hl, List.take_length] at ht
      exact ht
  · have : ¬ (xs.length : Int) = ys.length := by omega
    simp [this]
    rintro rfl
    exact hl rfl
end Go.Am
-- IntSSS
namespace Go.Am
open Go.Proofs
set_option maxHeartbeats 4000000
set_option maxRecDepth 100000
def rISS (a : List (List Int)) : List C := [.ar true 39 1 (a.map rIS)]
def sISS (a : List (List Int)) : List C := [.ar false 0 1 (a.map sIS)]
def zISS : List C := [.ar true 39 1 []]
@[simp] theorem rISS_len (a : List (List Int)) : (rISS a).length = 1 := rfl
@[simp] theorem sISS_len (a : List (List Int)) : (sISS a).length = 1 := rfl
@[simp] theorem shr_rISS (a : List (List Int)) : shrRow (rISS a) = sISS a := by simp [rISS, sISS]
@[simp] theorem shr_sISS (a : List (List Int)) : shrRow (sISS a) = sISS a := by simp [sISS]
@[simp] theorem shrs_rISS (xs : List (List (List Int))) : shrRows (xs.map rISS) = xs.map sISS := shrRows_of shr_rISS xs
@[simp] theorem shrs_sISS (xs : List (List (List Int))) : shrRows (xs.map sISS) = xs.map sISS := shrRows_of shr_sISS xs
@[simp] theorem noSh_rISS (xs : List (List (List Int))) : noShRows (xs.map rISS) = true := noSh_of (fun a => by simp [rISS]) xs
theorem of_IS (x : List C) (h : inShs [.l 1 [.i]] x) : ∃ a : List Int, x = sIS a ∧ lL l0 a := by
  simp only [inShs] at h
  obtain ⟨c0, r0, rfl, h0, rfl⟩ := h
  obtain ⟨n0, rfl, g0⟩ := of_sl of_int c0 h0
  exact ⟨n0, rfl, g0⟩
theorem of_ISS (x : List C) (h : inShs [.l 1 [.l 1 [.i]]] x) : ∃ a : List (List Int), x = sISS a ∧ lL (lL l0) a := by
  simp only [inShs] at h
  obtain ⟨c0, r0, rfl, h0, rfl⟩ := h
  obtain ⟨n0, rfl, g0⟩ := of_sl of_IS c0 h0
  exact ⟨n0, rfl, g0⟩
end Go.Am
-- EqF_ISS
namespace Go.Am
open Go.Proofs
set_option maxHeartbeats 4000000
set_option maxRecDepth 100000
-- 77 slices.EqualFunc[[][][]int,[][][]int,[][]int,[][]int]
def k_slices_EqualFunc_A3_int_A3_int_A2_int_A2_int : K :=
 .seq (
  .reg none [⟨(some 6), none, .asn (.c (.bool false))⟩]) (
 .seq (
  .seq (
   .reg none [⟨(some 10), none, .mv (.t 0)⟩,
     ⟨(some 11), none, .len (.t 10)⟩,
     ⟨(some 12), none, .mv (.t 1)⟩,
     ⟨(some 13), none, .len (.t 12)⟩,
     ⟨(some 14), none, .bin .neq (.t 11) (.t 13)⟩]) (
  .cond (.t 14) (
   .seq (
    .reg none [⟨(some 6), none, .asn (.c (.bool false))⟩]) (
   .ret)) (
   .skip))) (
 .seq (
  .seq (
   .reg none [⟨(some 15), none, .mv (.t 0)⟩,
     ⟨(some 16), none, .len (.t 15)⟩,
     ⟨(some 17), none, .mv (.c (.int .i64 (0)))⟩]) (
  .block 0 (
   .loop (some ([1, 2, 15, 16, 17], [0, 1, 2, 1000])) (
    .seq (
     .reg none [⟨(some 18), none, .bin .lss (.t 17) (.t 16)⟩]) (
    .seq (
     .cond (.t 18) (
      .skip) (
      .exit 0)) (
    .seq (
     .block 1 (
      .seq (
       .reg none [⟨(some 19), none, .mv (.t 17)⟩,
         ⟨(some 20), none, .iad 1 (.t 15) (.t 17)⟩,
         ⟨(some 21), none, .ld 1 false (.t 20)⟩,
         ⟨(some 7), none, .asn (.t 19)⟩,
         ⟨(some 8), none, .asn (.t 21)⟩]) (
      .seq (
       .reg none [⟨(some 22), none, .mv (.t 1)⟩,
         ⟨(some 23), none, .mv (.t 7)⟩,
         ⟨(some 24), none, .iad 1 (.t 22) (.t 23)⟩,
         ⟨(some 25), none, .ld 1 false (.t 24)⟩,
         ⟨(some 9), none, .asn (.t 25)⟩]) (
      .seq (
       .reg none [⟨(some 26), none, .mv (.t 2)⟩,
         ⟨(some 27), none, .mv (.t 8)⟩,
         ⟨(some 28), none, .mv (.t 9)⟩,
         ⟨(some 29), none, .callv (.t 26) [(.t 27), (.t 28)]⟩,
         ⟨(some 30), none, .not (.t 29)⟩]) (
      .cond (.t 30) (
       .seq (
        .reg none [⟨(some 6), none, .asn (.c (.bool false))⟩]) (
       .ret)) (
       .skip)))))) (
    .reg none [⟨(some 31), none, .bin .add (.t 17) (.c (.int .i64 (1)))⟩,
      ⟨(some 17), none, .mv (.t 31)⟩]))))))) (
 .seq (
  .reg none [⟨(some 6), none, .asn (.c (.bool true))⟩]) (
 .ret))))
def r_slices_EqualFunc_A3_int_A3_int_A2_int_A2_int : Nat × List RV := (32, [.t 6])

theorem c_slices_EqualFunc_A3_int_A3_int_A2_int_A2_int : cmpS PT PF PA (Tryz.prog.funcs[77]?) = some (r_slices_EqualFunc_A3_int_A3_int_A2_int_A2_int.1, r_slices_EqualFunc_A3_int_A3_int_A2_int_A2_int.2, stripK k_slices_EqualFunc_A3_int_A3_int_A2_int_A2_int) := by kernel_rfl

theorem h_EqF_ISS (f : Nat) (hf : PF.contains f = true) (xs ys : List (List (List Int))) (hx : xs.length < 2 ^ 40) (hc : ∀ i j (h : i < xs.length) (h2 : j < ys.length), CallsF Tryz.prog f [.one (.ar false 0 1 (xs[i].map sIS)), .one (.ar false 0 1 (ys[j].map sIS))] (aB (decide (xs[i] = ys[j])))) :
    CallsF Tryz.prog 77 [.one (.ar false 0 1 (xs.map sISS)), .one (.ar false 0 1 (ys.map sISS)), .one (.fn f [])] (aB (decide (xs = ys))) := by
  refine Prun c_slices_EqualFunc_A3_int_A3_int_A2_int_A2_int (by simp [r_slices_EqualFunc_A3_int_A3_int_A2_int_A2_int]) (by simp) ?_
  unfold k_slices_EqualFunc_A3_int_A3_int_A2_int_A2_int r_slices_EqualFunc_A3_int_A3_int_A2_int_A2_int
  have hok := PfnOk f hf
  by_cases hl : xs.length = ys.length
  · simp [hl]
    refine awp_loop (fun n σ => ∃ i : Nat, i ≤ xs.length ∧ n = xs.length - i ∧ xs.take i = ys.take i ∧ σ = ⟨[(1, .one (.ar false 0 1 (ys.map sISS))), (2, .one (.fn f [])), (15, .one (.ar false 0 1 (xs.map sISS))), (16, aI xs.length), (17, aI i)], []⟩) (xs.length) ⟨0, by simp [hl]⟩ ?_
    rintro n σ ⟨i, hi, rfl, ht, rfl⟩
    by_cases h : i < xs.length
    · have h2 : i < ys.length := by omega
      simp [h, h2, sISS, hok]
      refine callG_F (hc i i h h2) (by simp) ?_
      by_cases he : xs[i] = ys[i]
      · simp [he]
        refine ⟨xs.length - (i + 1), by omega, i + 1, by omega, rfl, (take_step h h2).2 ⟨ht, he⟩, ?_⟩
        rw [wrapI (by omega) (by omega)]
        simp
      · simp [he]
        intro hh
        subst hh
        exact he rfl
    · simp [h]
      have : i = xs.length := by omega
      rw [this, List.take_length, hl, List.take_length] at ht
      exact ht
  · have : ¬ (xs.length : Int) = ys.length := by omega
    simp [this]
    rintro rfl
    exact hl rfl
end Go.Am
-- Node_y
namespace Go.Am
open Go.Proofs
set_option maxHeartbeats 4000000
set_option maxRecDepth 100000
structure TNode where
  kind : Int
  sym : Int
  alt : Int
  pos : Int
  kids : List Int
  deriving DecidableEq, Inhabited
def rNode (a : TNode) : List C := [cI a.kind, cI a.sym, cI a.alt, cI a.pos, .ar true 3 1 (a.kids.map rI)]
def sNode (a : TNode) : List C := [cI a.kind, cI a.sym, cI a.alt, cI a.pos, .ar false 0 1 (a.kids.map rI)]
def zNode : List C := [cI 0, cI 0, cI 0, cI 0, .ar true 3 1 []]
@[simp] theorem rNode_len (a : TNode) : (rNode a).length = 5 := rfl
@[simp] theorem sNode_len (a : TNode) : (sNode a).length = 5 := rfl
@[simp] theorem shr_rNode (a : TNode) : shrRow (rNode a) = sNode a := by simp [rNode, sNode]
@[simp] theorem shr_sNode (a : TNode) : shrRow (sNode a) = sNode a := by simp [sNode]
@[simp] theorem shrs_rNode (xs : List TNode) : shrRows (xs.map rNode) = xs.map sNode := shrRows_of shr_rNode xs
@[simp] theorem shrs_sNode (xs : List TNode) : shrRows (xs.map sNode) = xs.map sNode := shrRows_of shr_sNode xs
@[simp] theorem noSh_rNode (xs : List TNode) : noShRows (xs.map rNode) = true := noSh_of (fun a => by simp [rNode]) xs
def wNode (a : TNode) : Nat := wL w0 a.kids
def lNode (a : TNode) : Prop := lL l0 a.kids
def mNode : Mk TNode := ⟨fun a k => ⟨k, k + 1, k + 1 + 1, k + 1 + 1 + 1, mI.mkL a.kids (k + 1 + 1 + 1 + 1)⟩, fun a => 1 + 1 + 1 + 1 + mI.nL a.kids⟩
@[simp] theorem mNode_wr (a : TNode) (k : Int) : mNode.wr a k = ⟨k, k + 1, k + 1 + 1, k + 1 + 1 + 1, mI.mkL a.kids (k + 1 + 1 + 1 + 1)⟩ := rfl
@[simp] theorem mNode_n (a : TNode) : mNode.n a = 1 + 1 + 1 + 1 + mI.nL a.kids := rfl
end Go.Am
-- EqF_Node
namespace Go.Am
open Go.Proofs
set_option maxHeartbeats 4000000
set_option maxRecDepth 100000
-- 149 slices.EqualFunc[[]loop.example/g00485/impl.Node,[]loop.example/g00485/impl.Node,loop.example/g00485/impl.Node,loop.example/g00485/impl.Node]
def k_slices_EqualFunc_impl_Node_impl_Node_impl_Node_impl_Node : K :=
 .seq (
  .reg none [⟨(some 6), none, .asn (.c (.bool false))⟩]) (
 .seq (
  .seq (
   .reg none [⟨(some 10), none, .mv (.t 0)⟩,
     ⟨(some 11), none, .len (.t 10)⟩,
     ⟨(some 12), none, .mv (.t 1)⟩,
     ⟨(some 13), none, .len (.t 12)⟩,
     ⟨(some 14), none, .bin .neq (.t 11) (.t 13)⟩]) (
  .cond (.t 14) (
   .seq (
    .reg none [⟨(some 6), none, .asn (.c (.bool false))⟩]) (
   .ret)) (
   .skip))) (
 .seq (
  .seq (
   .reg none [⟨(some 15), none, .mv (.t 0)⟩,
     ⟨(some 16), none, .len (.t 15)⟩,
     ⟨(some 17), none, .mv (.c (.int .i64 (0)))⟩]) (
  .block 0 (
   .loop (some ([1, 2, 15, 16, 17], [0, 1, 2, 1000])) (
    .seq (
     .reg none [⟨(some 18), none, .bin .lss (.t 17) (.t 16)⟩]) (
    .seq (
     .cond (.t 18) (
      .skip) (
      .exit 0)) (
    .seq (
     .block 1 (
      .seq (
       .reg none [⟨(some 19), none, .mv (.t 17)⟩,
         ⟨(some 20), none, .iad 5 (.t 15) (.t 17)⟩,
         ⟨(some 21), none, .ld 5 true (.t 20)⟩,
         ⟨(some 8), none, .alc 191 5 [(.int .i64 (0)), (.int .i64 (0)), (.int .i64 (0)), (.int .i64 (0)), (.ar true 3 1 [])]⟩,
         ⟨(some 7), none, .asn (.t 19)⟩,
         ⟨none, none, .st 5 false (.t 8) (.t 21)⟩]) (
      .seq (
       .reg none [⟨(some 22), none, .mv (.t 1)⟩,
         ⟨(some 23), none, .mv (.t 7)⟩,
         ⟨(some 24), none, .iad 5 (.t 22) (.t 23)⟩,
         ⟨(some 25), none, .ld 5 true (.t 24)⟩,
         ⟨(some 9), none, .alc 191 5 [(.int .i64 (0)), (.int .i64 (0)), (.int .i64 (0)), (.int .i64 (0)), (.ar true 3 1 [])]⟩,
         ⟨none, none, .st 5 false (.t 9) (.t 25)⟩]) (
      .seq (
       .reg none [⟨(some 26), none, .mv (.t 2)⟩,
         ⟨(some 27), none, .ld 5 true (.t 8)⟩,
         ⟨(some 28), none, .ld 5 true (.t 9)⟩,
         ⟨(some 29), none, .callv (.t 26) [(.t 27), (.t 28)]⟩,
         ⟨(some 30), none, .not (.t 29)⟩]) (
      .cond (.t 30) (
       .seq (
        .reg none [⟨(some 6), none, .asn (.c (.bool false))⟩]) (
       .ret)) (
       .skip)))))) (
    .reg none [⟨(some 31), none, .bin .add (.t 17) (.c (.int .i64 (1)))⟩,
      ⟨(some 17), none, .mv (.t 31)⟩]))))))) (
 .seq (
  .reg none [⟨(some 6), none, .asn (.c (.bool true))⟩]) (
 .ret))))
def r_slices_EqualFunc_impl_Node_impl_Node_impl_Node_impl_Node : Nat × List RV := (32, [.t 6])

theorem c_slices_EqualFunc_impl_Node_impl_Node_impl_Node_impl_Node : cmpS PT PF PA (Tryz.prog.funcs[149]?) = some (r_slices_EqualFunc_impl_Node_impl_Node_impl_Node_impl_Node.1, r_slices_EqualFunc_impl_Node_impl_Node_impl_Node_impl_Node.2, stripK k_slices_EqualFunc_impl_Node_impl_Node_impl_Node_impl_Node) := by kernel_rfl

theorem h_EqF_Node (f : Nat) (hf : PF.contains f = true) (xs ys : List TNode) (hx : xs.length < 2 ^ 40) (hc : ∀ i j (h : i < xs.length) (h2 : j < ys.length), CallsF Tryz.prog f [.agg (sNode xs[i]), .agg (sNode ys[j])] (aB (decide (xs[i] = ys[j])))) :
    CallsF Tryz.prog 149 [.one (.ar false 0 5 (xs.map sNode)), .one (.ar false 0 5 (ys.map sNode)), .one (.fn f [])] (aB (decide (xs = ys))) := by
  refine Prun c_slices_EqualFunc_impl_Node_impl_Node_impl_Node_impl_Node (by simp [r_slices_EqualFunc_impl_Node_impl_Node_impl_Node_impl_Node]) (by simp) ?_
  unfold k_slices_EqualFunc_impl_Node_impl_Node_impl_Node_impl_Node r_slices_EqualFunc_impl_Node_impl_Node_impl_Node_impl_Node
  have hok := PfnOk f hf
  by_cases hl : xs.length = ys.length
  · simp [hl]
    refine awp_loop (fun n σ => ∃ i : Nat, i ≤ xs.length ∧ n = xs.length - i ∧ xs.take i = ys.take i ∧ σ = ⟨[(1, .one (.ar false 0 5 (ys.map sNode))), (2, .one (.fn f [])), (15, .one (.ar false 0 5 (xs.map sNode))), (16, aI xs.length), (17, aI i)], []⟩) (xs.length) ⟨0, by simp [hl]⟩ ?_
    rintro n σ ⟨i, hi, rfl, ht, rfl⟩
    by_cases h : i < xs.length
    · have h2 : i < ys.length := by omega
      simp [h, h2, sNode, hok]
      refine callG_F (hc i i h h2) (by simp) ?_
      by_cases he : xs[i] = ys[i]
      · simp [he]
        refine ⟨xs.length - (i + 1), by omega, i + 1, by omega, rfl, (take_step h h2).2 ⟨ht, he⟩, ?_⟩
        rw [wrapI (by omega) (by omega)]
        simp
      · simp [he]
        intro hh
        subst hh
        exact he rfl
    · simp [h]
      have : i = xs.length := by omega
      rw [this, List.take_length, hl, List.take_length] at ht
      exact ht
  · have : ¬ (xs.length : Int) = ys.length := by omega
    simp [this]
    rintro rfl
    exact hl rfl
end Go.Am
-- Tree_y
namespace Go.Am
open Go.Proofs
set_option maxHeartbeats 4000000
set_option maxRecDepth 100000
structure TTree where
  nodes : List TNode
  deriving DecidableEq, Inhabited
def rTree (a : TTree) : List C := [.ar true 191 5 (a.nodes.map rNode)]
def sTree (a : TTree) : List C := [.ar false 0 5 (a.nodes.map sNode)]
def zTree : List C := [.ar true 191 5 []]
@[simp] theorem rTree_len (a : TTree) : (rTree a).length = 1 := rfl
@[simp] theorem sTree_len (a : TTree) : (sTree a).length = 1 := rfl
@[simp] theorem shr_rTree (a : TTree) : shrRow (rTree a) = sTree a := by simp [rTree, sTree]
@[simp] theorem shr_sTree (a : TTree) : shrRow (sTree a) = sTree a := by simp [sTree]
@[simp] theorem shrs_rTree (xs : List TTree) : shrRows (xs.map rTree) = xs.map sTree := shrRows_of shr_rTree xs
@[simp] theorem shrs_sTree (xs : List TTree) : shrRows (xs.map sTree) = xs.map sTree := shrRows_of shr_sTree xs
@[simp] theorem noSh_rTree (xs : List TTree) : noShRows (xs.map rTree) = true := noSh_of (fun a => by simp [rTree]) xs
def wTree (a : TTree) : Nat := wL wNode a.nodes
def lTree (a : TTree) : Prop := lL lNode a.nodes
def mTree : Mk TTree := ⟨fun a k => ⟨mNode.mkL a.nodes (k)⟩, fun a => mNode.nL a.nodes⟩
@[simp] theorem mTree_wr (a : TTree) (k : Int) : mTree.wr a k = ⟨mNode.mkL a.nodes (k)⟩ := rfl
@[simp] theorem mTree_n (a : TTree) : mTree.n a = mNode.nL a.nodes := rfl
end Go.Am
-- Run_y
namespace Go.Am
open Go.Proofs
set_option maxHeartbeats 4000000
set_option maxRecDepth 100000
structure TRun where
  code : Int
  pos : Int
  look : Int
  cost : Int
  slots : List TSlot
  tree : TTree
  errs : List TErr
  deriving DecidableEq, Inhabited
def rRun (a : TRun) : List C := [cI a.code, cI a.pos, cI a.look, cI a.cost, .ar true 155 2 (a.slots.map rSlot), .ar true 191 5 (a.tree.nodes.map rNode), .ar true 157 3 (a.errs.map rErr)]
def sRun (a : TRun) : List C := [cI a.code, cI a.pos, cI a.look, cI a.cost, .ar false 0 2 (a.slots.map sSlot), .ar false 0 5 (a.tree.nodes.map sNode), .ar false 0 3 (a.errs.map sErr)]
def zRun : List C := [cI 0, cI 0, cI 0, cI 0, .ar true 155 2 [], .ar true 191 5 [], .ar true 157 3 []]
@[simp] theorem rRun_len (a : TRun) : (rRun a).length = 7 := rfl
@[simp] theorem sRun_len (a : TRun) : (sRun a).length = 7 := rfl
@[simp] theorem shr_rRun (a : TRun) : shrRow (rRun a) = sRun a := by simp [rRun, sRun]
@[simp] theorem shr_sRun (a : TRun) : shrRow (sRun a) = sRun a := by simp [sRun]
@[simp] theorem shrs_rRun (xs : List TRun) : shrRows (xs.map rRun) = xs.map sRun := shrRows_of shr_rRun xs
@[simp] theorem shrs_sRun (xs : List TRun) : shrRows (xs.map sRun) = xs.map sRun := shrRows_of shr_sRun xs
@[simp] theorem noSh_rRun (xs : List TRun) : noShRows (xs.map rRun) = true := noSh_of (fun a => by simp [rRun]) xs
def wRun (a : TRun) : Nat := wL wSlot a.slots + wTree a.tree + wL wErr a.errs
def lRun (a : TRun) : Prop := lL lSlot a.slots ∧ lTree a.tree ∧ lL lErr a.errs
def mRun : Mk TRun := ⟨fun a k => ⟨k, k + 1, k + 1 + 1, k + 1 + 1 + 1, mSlot.mkL a.slots (k + 1 + 1 + 1 + 1), ⟨mNode.mkL a.tree.nodes (k + 1 + 1 + 1 + 1 + mSlot.nL a.slots)⟩, mErr.mkL a.errs (k + 1 + 1 + 1 + 1 + mSlot.nL a.slots + mNode.nL a.tree.nodes)⟩, fun a => 1 + 1 + 1 + 1 + mSlot.nL a.slots + mNode.nL a.tree.nodes + mErr.nL a.errs⟩
@[simp] theorem mRun_wr (a : TRun) (k : Int) : mRun.wr a k = ⟨k, k + 1, k + 1 + 1, k + 1 + 1 + 1, mSlot.mkL a.slots (k + 1 + 1 + 1 + 1), ⟨mNode.mkL a.tree.nodes (k + 1 + 1 + 1 + 1 + mSlot.nL a.slots)⟩, mErr.mkL a.errs (k + 1 + 1 + 1 + 1 + mSlot.nL a.slots + mNode.nL a.tree.nodes)⟩ := rfl
@[simp] theorem mRun_n (a : TRun) : mRun.n a = 1 + 1 + 1 + 1 + mSlot.nL a.slots + mNode.nL a.tree.nodes + mErr.nL a.errs := rfl
end Go.Am
-- Job_y
namespace Go.Am
open Go.Proofs
set_option maxHeartbeats 4000000
set_option maxRecDepth 100000
structure TJob where
  ticket : Int
  gram : Int
  input : List Int
  run : TRun
  deriving DecidableEq, Inhabited
def rJob (a : TJob) : List C := [cI a.ticket, cI a.gram, .ar true 3 1 (a.input.map rI), cI a.run.code, cI a.run.pos, cI a.run.look, cI a.run.cost, .ar true 155 2 (a.run.slots.map rSlot), .ar true 191 5 (a.run.tree.nodes.map rNode), .ar true 157 3 (a.run.errs.map rErr)]
def sJob (a : TJob) : List C := [cI a.ticket, cI a.gram, .ar false 0 1 (a.input.map rI), cI a.run.code, cI a.run.pos, cI a.run.look, cI a.run.cost, .ar false 0 2 (a.run.slots.map sSlot), .ar false 0 5 (a.run.tree.nodes.map sNode), .ar false 0 3 (a.run.errs.map sErr)]
def zJob : List C := [cI 0, cI 0, .ar true 3 1 [], cI 0, cI 0, cI 0, cI 0, .ar true 155 2 [], .ar true 191 5 [], .ar true 157 3 []]
@[simp] theorem rJob_len (a : TJob) : (rJob a).length = 10 := rfl
@[simp] theorem sJob_len (a : TJob) : (sJob a).length = 10 := rfl
@[simp] theorem shr_rJob (a : TJob) : shrRow (rJob a) = sJob a := by simp [rJob, sJob]
@[simp] theorem shr_sJob (a : TJob) : shrRow (sJob a) = sJob a := by simp [sJob]
@[simp] theorem shrs_rJob (xs : List TJob) : shrRows (xs.map rJob) = xs.map sJob := shrRows_of shr_rJob xs
@[simp] theorem shrs_sJob (xs : List TJob) : shrRows (xs.map sJob) = xs.map sJob := shrRows_of shr_sJob xs
@[simp] theorem noSh_rJob (xs : List TJob) : noShRows (xs.map rJob) = true := noSh_of (fun a => by simp [rJob]) xs
def wJob (a : TJob) : Nat := wL w0 a.input + wRun a.run
def lJob (a : TJob) : Prop := lL l0 a.input ∧ lRun a.run
def mJob : Mk TJob := ⟨fun a k => ⟨k, k + 1, mI.mkL a.input (k + 1 + 1), ⟨k + 1 + 1 + mI.nL a.input, k + 1 + 1 + mI.nL a.input + 1, k + 1 + 1 + mI.nL a.input + 1 + 1, k + 1 + 1 + mI.nL a.input + 1 + 1 + 1, mSlot.mkL a.run.slots (k + 1 + 1 + mI.nL a.input + 1 + 1 + 1 + 1), ⟨mNode.mkL a.run.tree.nodes (k + 1 + 1 + mI.nL a.input + 1 + 1 + 1 + 1 + mSlot.nL a.run.slots)⟩, mErr.mkL a.run.errs (k + 1 + 1 + mI.nL a.input + 1 + 1 + 1 + 1 + mSlot.nL a.run.slots + mNode.nL a.run.tree.nodes)⟩⟩, fun a => 1 + 1 + mI.nL a.input + 1 + 1 + 1 + 1 + mSlot.nL a.run.slots + mNode.nL a.run.tree.nodes + mErr.nL a.run.errs⟩
@[simp] theorem mJob_wr (a : TJob) (k : Int) : mJob.wr a k = ⟨k, k + 1, mI.mkL a.input (k + 1 + 1), ⟨k + 1 + 1 + mI.nL a.input, k + 1 + 1 + mI.nL a.input + 1, k + 1 + 1 + mI.nL a.input + 1 + 1, k + 1 + 1 + mI.nL a.input + 1 + 1 + 1, mSlot.mkL a.run.slots (k + 1 + 1 + mI.nL a.input + 1 + 1 + 1 + 1), ⟨mNode.mkL a.run.tree.nodes (k + 1 + 1 + mI.nL a.input + 1 + 1 + 1 + 1 + mSlot.nL a.run.slots)⟩, mErr.mkL a.run.errs (k + 1 + 1 + mI.nL a.input + 1 + 1 + 1 + 1 + mSlot.nL a.run.slots + mNode.nL a.run.tree.nodes)⟩⟩ := rfl
@[simp] theorem mJob_n (a : TJob) : mJob.n a = 1 + 1 + mI.nL a.input + 1 + 1 + 1 + 1 + mSlot.nL a.run.slots + mNode.nL a.run.tree.nodes + mErr.nL a.run.errs := rfl
end Go.Am
-- EqF_Job
namespace Go.Am
open Go.Proofs
set_option maxHeartbeats 4000000
set_option maxRecDepth 100000
-- 83 slices.EqualFunc[[]loop.example/g00485/impl.Job,[]loop.example/g00485/impl.Job,loop.example/g00485/impl.Job,loop.example/g00485/impl.Job]
def k_slices_EqualFunc_impl_Job_impl_Job_impl_Job_impl_Job : K :=
 .seq (
  .reg none [⟨(some 6), none, .asn (.c (.bool false))⟩]) (
 .seq (
  .seq (
   .reg none [⟨(some 10), none, .mv (.t 0)⟩,
     ⟨(some 11), none, .len (.t 10)⟩,
     ⟨(some 12), none, .mv (.t 1)⟩,
     ⟨(some 13), none, .len (.t 12)⟩,
     ⟨(some 14), none, .bin .neq (.t 11) (.t 13)⟩]) (
  .cond (.t 14) (
   .seq (
    .reg none [⟨(some 6), none, .asn (.c (.bool false))⟩]) (
   .ret)) (
   .skip))) (
 .seq (
  .seq (
   .reg none [⟨(some 15), none, .mv (.t 0)⟩,
     ⟨(some 16), none, .len (.t 15)⟩,
     ⟨(some 17), none, .mv (.c (.int .i64 (0)))⟩]) (
  .block 0 (
   .loop (some ([1, 2, 15, 16, 17], [0, 1, 2, 1000])) (
    .seq (
     .reg none [⟨(some 18), none, .bin .lss (.t 17) (.t 16)⟩]) (
    .seq (
     .cond (.t 18) (
      .skip) (
      .exit 0)) (
    .seq (
     .block 1 (
      .seq (
       .reg none [⟨(some 19), none, .mv (.t 17)⟩,
         ⟨(some 20), none, .iad 10 (.t 15) (.t 17)⟩,
         ⟨(some 21), none, .ld 10 true (.t 20)⟩,
         ⟨(some 8), none, .alc 121 10 [(.int .i64 (0)), (.int .i64 (0)), (.ar true 3 1 []), (.int .i64 (0)), (.int .i64 (0)), (.int .i64 (0)), (.int .i64 (0)), (.ar true 155 2 []), (.ar true 191 5 []), (.ar true 157 3 [])]⟩,
         ⟨(some 7), none, .asn (.t 19)⟩,
         ⟨none, none, .st 10 false (.t 8) (.t 21)⟩]) (
      .seq (
       .reg none [⟨(some 22), none, .mv (.t 1)⟩,
         ⟨(some 23), none, .mv (.t 7)⟩,
         ⟨(some 24), none, .iad 10 (.t 22) (.t 23)⟩,
         ⟨(some 25), none, .ld 10 true (.t 24)⟩,
         ⟨(some 9), none, .alc 121 10 [(.int .i64 (0)), (.int .i64 (0)), (.ar true 3 1 []), (.int .i64 (0)), (.int .i64 (0)), (.int .i64 (0)), (.int .i64 (0)), (.ar true 155 2 []), (.ar true 191 5 []), (.ar true 157 3 [])]⟩,
         ⟨none, none, .st 10 false (.t 9) (.t 25)⟩]) (
      .seq (
       .reg none [⟨(some 26), none, .mv (.t 2)⟩,
         ⟨(some 27), none, .ld 10 true (.t 8)⟩,
         ⟨(some 28), none, .ld 10 true (.t 9)⟩,
         ⟨(some 29), none, .callv (.t 26) [(.t 27), (.t 28)]⟩,
         ⟨(some 30), none, .not (.t 29)⟩]) (
      .cond (.t 30) (
       .seq (
        .reg none [⟨(some 6), none, .asn (.c (.bool false))⟩]) (
       .ret)) (
       .skip)))))) (
    .reg none [⟨(some 31), none, .bin .add (.t 17) (.c (.int .i64 (1)))⟩,
      ⟨(some 17), none, .mv (.t 31)⟩]))))))) (
 .seq (
  .reg none [⟨(some 6), none, .asn (.c (.bool true))⟩]) (
 .ret))))
def r_slices_EqualFunc_impl_Job_impl_Job_impl_Job_impl_Job : Nat × List RV := (32, [.t 6])

theorem c_slices_EqualFunc_impl_Job_impl_Job_impl_Job_impl_Job : cmpS PT PF PA (Tryz.prog.funcs[83]?) = some (r_slices_EqualFunc_impl_Job_impl_Job_impl_Job_impl_Job.1, r_slices_EqualFunc_impl_Job_impl_Job_impl_Job_impl_Job.2, stripK k_slices_EqualFunc_impl_Job_impl_Job_impl_Job_impl_Job) := by kernel_rfl

theorem h_EqF_Job (f : Nat) (hf : PF.contains f = true) (xs ys : List TJob) (hx : xs.length < 2 ^ 40) (hc : ∀ i j (h : i < xs.length) (h2 : j < ys.length), CallsF Tryz.prog f [.agg (sJob xs[i]), .agg (sJob ys[j])] (aB (decide (xs[i] = ys[j])))) :
    CallsF Tryz.prog 83 [.one (.ar false 0 10 (xs.map sJob)), .one (.ar false 0 10 (ys.map sJob)), .one (.fn f [])] (aB (decide (xs = ys))) := by
  refine Prun c_slices_EqualFunc_impl_Job_impl_Job_impl_Job_impl_Job (by simp [r_slices_EqualFunc_impl_Job_impl_Job_impl_Job_impl_Job]) (by simp) ?_
  unfold k_slices_EqualFunc_impl_Job_impl_Job_impl_Job_impl_Job r_slices_EqualFunc_impl_Job_impl_Job_impl_Job_impl_Job
  have hok := PfnOk f hf
  by_cases hl : xs.length = ys.length
  · simp [hl]
    refine awp_loop (fun n σ => ∃ i : Nat, i ≤ xs.length ∧ n = xs.length - i ∧ xs.take i = ys.take i ∧ σ = ⟨[(1, .one (.ar false 0 10 (ys.map sJob))), (2, .one (.fn f [])), (15, .one (.ar false 0 10 (xs.map sJob))), (16, aI xs.length), (17, aI i)], []⟩) (xs.length) ⟨0, by simp [hl]⟩ ?_
    rintro n σ ⟨i, hi, rfl, ht, rfl⟩
    by_cases h : i < xs.length
    · have h2 : i < ys.length := by omega
      simp [h, h2, sJob, hok]
      refine callG_F (hc i i h h2) (by simp) ?_
      by_cases he : xs[i] = ys[i]
      · simp [he]
        refine ⟨xs.length - (i + 1), by omega, i + 1, by omega, rfl, (take_step h h2).2 ⟨ht, he⟩, ?_⟩
        rw [wrapI (by omega) (by omega)]
        simp
      · simp [he]
        intro hh
        subst hh
        exact he rfl
    · simp [h]
      have : i = xs.length := by omega
      rw [this, List.take_length, hl, List.take_length] at ht
      exact ht
  · have : ¬ (xs.length : Int) = ys.length := by omega
    simp [this]
    rintro rfl
    exact hl rfl
end Go.Am
-- Tenant_y
namespace Go.Am
open Go.Proofs
set_option maxHeartbeats 4000000
set_option maxRecDepth 100000
structure TTenant where
  quantum : Int
  cls : Int
  budget : Int
  used : Int
  wait : Int
  turns : Int
  next : Int
  due : Int
  queue : List TJob
  out : List TOutcome
  deriving DecidableEq, Inhabited
def rTenant (a : TTenant) : List C := [cI a.quantum, cI a.cls, cI a.budget, cI a.used, cI a.wait, cI a.turns, cI a.next, cI a.due, .ar true 121 10 (a.queue.map rJob), .ar true 132 3 (a.out.map rOutcome)]
def sTenant (a : TTenant) : List C := [cI a.quantum, cI a.cls, cI a.budget, cI a.used, cI a.wait, cI a.turns, cI a.next, cI a.due, .ar false 0 10 (a.queue.map sJob), .ar false 0 3 (a.out.map sOutcome)]
def zTenant : List C := [cI 0, cI 0, cI 0, cI 0, cI 0, cI 0, cI 0, cI 0, .ar true 121 10 [], .ar true 132 3 []]
@[simp] theorem rTenant_len (a : TTenant) : (rTenant a).length = 10 := rfl
@[simp] theorem sTenant_len (a : TTenant) : (sTenant a).length = 10 := rfl
@[simp] theorem shr_rTenant (a : TTenant) : shrRow (rTenant a) = sTenant a := by simp [rTenant, sTenant]
@[simp] theorem shr_sTenant (a : TTenant) : shrRow (sTenant a) = sTenant a := by simp [sTenant]
@[simp] theorem shrs_rTenant (xs : List TTenant) : shrRows (xs.map rTenant) = xs.map sTenant := shrRows_of shr_rTenant xs
@[simp] theorem shrs_sTenant (xs : List TTenant) : shrRows (xs.map sTenant) = xs.map sTenant := shrRows_of shr_sTenant xs
@[simp] theorem noSh_rTenant (xs : List TTenant) : noShRows (xs.map rTenant) = true := noSh_of (fun a => by simp [rTenant]) xs
def wTenant (a : TTenant) : Nat := wL wJob a.queue + wL wOutcome a.out
def lTenant (a : TTenant) : Prop := lL lJob a.queue ∧ lL lOutcome a.out
def mTenant : Mk TTenant := ⟨fun a k => ⟨k, k + 1, k + 1 + 1, k + 1 + 1 + 1, k + 1 + 1 + 1 + 1, k + 1 + 1 + 1 + 1 + 1, k + 1 + 1 + 1 + 1 + 1 + 1, k + 1 + 1 + 1 + 1 + 1 + 1 + 1, mJob.mkL a.queue (k + 1 + 1 + 1 + 1 + 1 + 1 + 1 + 1), mOutcome.mkL a.out (k + 1 + 1 + 1 + 1 + 1 + 1 + 1 + 1 + mJob.nL a.queue)⟩, fun a => 1 + 1 + 1 + 1 + 1 + 1 + 1 + 1 + mJob.nL a.queue + mOutcome.nL a.out⟩
@[simp] theorem mTenant_wr (a : TTenant) (k : Int) : mTenant.wr a k = ⟨k, k + 1, k + 1 + 1, k + 1 + 1 + 1, k + 1 + 1 + 1 + 1, k + 1 + 1 + 1 + 1 + 1, k + 1 + 1 + 1 + 1 + 1 + 1, k + 1 + 1 + 1 + 1 + 1 + 1 + 1, mJob.mkL a.queue (k + 1 + 1 + 1 + 1 + 1 + 1 + 1 + 1), mOutcome.mkL a.out (k + 1 + 1 + 1 + 1 + 1 + 1 + 1 + 1 + mJob.nL a.queue)⟩ := rfl
@[simp] theorem mTenant_n (a : TTenant) : mTenant.n a = 1 + 1 + 1 + 1 + 1 + 1 + 1 + 1 + mJob.nL a.queue + mOutcome.nL a.out := rfl
end Go.Am
-- EqF_Tenant
namespace Go.Am
open Go.Proofs
set_option maxHeartbeats 4000000
set_option maxRecDepth 100000
-- 44 slices.EqualFunc[[]loop.example/g00485/impl.Tenant,[]loop.example/g00485/impl.Tenant,loop.example/g00485/impl.Tenant,loop.example/g00485/impl.Tenant]
def k_slices_EqualFunc_impl_Tenant_impl_Tenant_impl_Tenant_impl_Tenant : K :=
 .seq (
  .reg none [⟨(some 6), none, .asn (.c (.bool false))⟩]) (
 .seq (
  .seq (
   .reg none [⟨(some 10), none, .mv (.t 0)⟩,
     ⟨(some 11), none, .len (.t 10)⟩,
     ⟨(some 12), none, .mv (.t 1)⟩,
     ⟨(some 13), none, .len (.t 12)⟩,
     ⟨(some 14), none, .bin .neq (.t 11) (.t 13)⟩]) (
  .cond (.t 14) (
   .seq (
    .reg none [⟨(some 6), none, .asn (.c (.bool false))⟩]) (
   .ret)) (
   .skip))) (
 .seq (
  .seq (
   .reg none [⟨(some 15), none, .mv (.t 0)⟩,
     ⟨(some 16), none, .len (.t 15)⟩,
     ⟨(some 17), none, .mv (.c (.int .i64 (0)))⟩]) (
  .block 0 (
   .loop (some ([1, 2, 15, 16, 17], [0, 1, 2, 1000])) (
    .seq (
     .reg none [⟨(some 18), none, .bin .lss (.t 17) (.t 16)⟩]) (
    .seq (
     .cond (.t 18) (
      .skip) (
      .exit 0)) (
    .seq (
     .block 1 (
      .seq (
       .reg none [⟨(some 19), none, .mv (.t 17)⟩,
         ⟨(some 20), none, .iad 10 (.t 15) (.t 17)⟩,
         ⟨(some 21), none, .ld 10 true (.t 20)⟩,
         ⟨(some 8), none, .alc 75 10 [(.int .i64 (0)), (.int .i64 (0)), (.int .i64 (0)), (.int .i64 (0)), (.int .i64 (0)), (.int .i64 (0)), (.int .i64 (0)), (.int .i64 (0)), (.ar true 121 10 []), (.ar true 132 3 [])]⟩,
         ⟨(some 7), none, .asn (.t 19)⟩,
         ⟨none, none, .st 10 false (.t 8) (.t 21)⟩]) (
      .seq (
       .reg none [⟨(some 22), none, .mv (.t 1)⟩,
         ⟨(some 23), none, .mv (.t 7)⟩,
         ⟨(some 24), none, .iad 10 (.t 22) (.t 23)⟩,
         ⟨(some 25), none, .ld 10 true (.t 24)⟩,
         ⟨(some 9), none, .alc 75 10 [(.int .i64 (0)), (.int .i64 (0)), (.int .i64 (0)), (.int .i64 (0)), (.int .i64 (0)), (.int .i64 (0)), (.int .i64 (0)), (.int .i64 (0)), (.ar true 121 10 []), (.ar true 132 3 [])]⟩,
         ⟨none, none, .st 10 false (.t 9) (.t 25)⟩]) (
      .seq (
       .reg none [⟨(some 26), none, .mv (.t 2)⟩,
         ⟨(some 27), none, .ld 10 true (.t 8)⟩,
         ⟨(some 28), none, .ld 10 true (.t 9)⟩,
         ⟨(some 29), none, .callv (.t 26) [(.t 27), (.t 28)]⟩,
         ⟨(some 30), none, .not (.t 29)⟩]) (
      .cond (.t 30) (
       .seq (
        .reg none [⟨(some 6), none, .asn (.c (.bool false))⟩]) (
       .ret)) (
       .skip)))))) (
    .reg none [⟨(some 31), none, .bin .add (.t 17) (.c (.int .i64 (1)))⟩,
      ⟨(some 17), none, .mv (.t 31)⟩]))))))) (
 .seq (
  .reg none [⟨(some 6), none, .asn (.c (.bool true))⟩]) (
 .ret))))
def r_slices_EqualFunc_impl_Tenant_impl_Tenant_impl_Tenant_impl_Tenant : Nat × List RV := (32, [.t 6])

theorem c_slices_EqualFunc_impl_Tenant_impl_Tenant_impl_Tenant_impl_Tenant : cmpS PT PF PA (Tryz.prog.funcs[44]?) = some (r_slices_EqualFunc_impl_Tenant_impl_Tenant_impl_Tenant_impl_Tenant.1, r_slices_EqualFunc_impl_Tenant_impl_Tenant_impl_Tenant_impl_Tenant.2, stripK k_slices_EqualFunc_impl_Tenant_impl_Tenant_impl_Tenant_impl_Tenant) := by kernel_rfl

theorem h_EqF_Tenant (f : Nat) (hf : PF.contains f = true) (xs ys : List TTenant) (hx : xs.length < 2 ^ 40) (hc : ∀ i j (h : i < xs.length) (h2 : j < ys.length), CallsF Tryz.prog f [.agg (sTenant xs[i]), .agg (sTenant ys[j])] (aB (decide (xs[i] = ys[j])))) :
    CallsF Tryz.prog 44 [.one (.ar false 0 10 (xs.map sTenant)), .one (.ar false 0 10 (ys.map sTenant)), .one (.fn f [])] (aB (decide (xs = ys))) := by
  refine Prun c_slices_EqualFunc_impl_Tenant_impl_Tenant_impl_Tenant_impl_Tenant (by simp [r_slices_EqualFunc_impl_Tenant_impl_Tenant_impl_Tenant_impl_Tenant]) (by simp) ?_
  unfold k_slices_EqualFunc_impl_Tenant_impl_Tenant_impl_Tenant_impl_Tenant r_slices_EqualFunc_impl_Tenant_impl_Tenant_impl_Tenant_impl_Tenant
  have hok := PfnOk f hf
  by_cases hl : xs.length = ys.length
  · simp [hl]
    refine awp_loop (fun n σ => ∃ i : Nat, i ≤ xs.length ∧ n = xs.length - i ∧ xs.take i = ys.take i ∧ σ = ⟨[(1, .one (.ar false 0 10 (ys.map sTenant))), (2, .one (.fn f [])), (15, .one (.ar false 0 10 (xs.map sTenant))), (16, aI xs.length), (17, aI i)], []⟩) (xs.length) ⟨0, by simp [hl]⟩ ?_
    rintro n σ ⟨i, hi, rfl, ht, rfl⟩
    by_cases h : i < xs.length
    · have h2 : i < ys.length := by omega
      simp [h, h2, sTenant, hok]
      refine callG_F (hc i i h h2) (by simp) ?_
      by_cases he : xs[i] = ys[i]
      · simp [he]
        refine ⟨xs.length - (i + 1), by omega, i + 1, by omega, rfl, (take_step h h2).2 ⟨ht, he⟩, ?_⟩
        rw [wrapI (by omega) (by omega)]
        simp
      · simp [he]
        intro hh
        subst hh
        exact he rfl
    · simp [h]
      have : i = xs.length := by omega
      rw [this, List.take_length, hl, List.take_length] at ht
      exact ht
  · have : ¬ (xs.length : Int) = ys.length := by omega
    simp [this]
    rintro rfl
    exact hl rfl
end Go.Am
-- Gram_y
namespace Go.Am
open Go.Proofs
set_option maxHeartbeats 4000000
set_option maxRecDepth 100000
structure TGram where
  parts : List (List (List Int))
  deriving DecidableEq, Inhabited
def rGram (a : TGram) : List C := [.ar true 116 1 (a.parts.map rISS)]
def sGram (a : TGram) : List C := [.ar false 0 1 (a.parts.map sISS)]
def zGram : List C := [.ar true 116 1 []]
@[simp] theorem rGram_len (a : TGram) : (rGram a).length = 1 := rfl
@[simp] theorem sGram_len (a : TGram) : (sGram a).length = 1 := rfl
@[simp] theorem shr_rGram (a : TGram) : shrRow (rGram a) = sGram a := by simp [rGram, sGram]
@[simp] theorem shr_sGram (a : TGram) : shrRow (sGram a) = sGram a := by simp [sGram]
@[simp] theorem shrs_rGram (xs : List TGram) : shrRows (xs.map rGram) = xs.map sGram := shrRows_of shr_rGram xs
@[simp] theorem shrs_sGram (xs : List TGram) : shrRows (xs.map sGram) = xs.map sGram := shrRows_of shr_sGram xs
@[simp] theorem noSh_rGram (xs : List TGram) : noShRows (xs.map rGram) = true := noSh_of (fun a => by simp [rGram]) xs
def wGram (a : TGram) : Nat := wL (wL (wL w0)) a.parts
def lGram (a : TGram) : Prop := lL (lL (lL l0)) a.parts
def mGram : Mk TGram := ⟨fun a k => ⟨mI.L.L.mkL a.parts (k)⟩, fun a => mI.L.L.nL a.parts⟩
@[simp] theorem mGram_wr (a : TGram) (k : Int) : mGram.wr a k = ⟨mI.L.L.mkL a.parts (k)⟩ := rfl
@[simp] theorem mGram_n (a : TGram) : mGram.n a = mI.L.L.nL a.parts := rfl
end Go.Am
-- EqF_Gram
namespace Go.Am
open Go.Proofs
set_option maxHeartbeats 4000000
set_option maxRecDepth 100000
-- 40 slices.EqualFunc[[]loop.example/g00485/impl.Gram,[]loop.example/g00485/impl.Gram,loop.example/g00485/impl.Gram,loop.example/g00485/impl.Gram]
def k_slices_EqualFunc_impl_Gram_impl_Gram_impl_Gram_impl_Gram : K :=
 .seq (
  .reg none [⟨(some 6), none, .asn (.c (.bool false))⟩]) (
 .seq (
  .seq (
   .reg none [⟨(some 10), none, .mv (.t 0)⟩,
     ⟨(some 11), none, .len (.t 10)⟩,
     ⟨(some 12), none, .mv (.t 1)⟩,
     ⟨(some 13), none, .len (.t 12)⟩,
     ⟨(some 14), none, .bin .neq (.t 11) (.t 13)⟩]) (
  .cond (.t 14) (
   .seq (
    .reg none [⟨(some 6), none, .asn (.c (.bool false))⟩]) (
   .ret)) (
   .skip))) (
 .seq (
  .seq (
   .reg none [⟨(some 15), none, .mv (.t 0)⟩,
     ⟨(some 16), none, .len (.t 15)⟩,
     ⟨(some 17), none, .mv (.c (.int .i64 (0)))⟩]) (
  .block 0 (
   .loop (some ([1, 2, 15, 16, 17], [0, 1, 2, 1000])) (
    .seq (
     .reg none [⟨(some 18), none, .bin .lss (.t 17) (.t 16)⟩]) (
    .seq (
     .cond (.t 18) (
      .skip) (
      .exit 0)) (
    .seq (
     .block 1 (
      .seq (
       .reg none [⟨(some 19), none, .mv (.t 17)⟩,
         ⟨(some 20), none, .iad 1 (.t 15) (.t 17)⟩,
         ⟨(some 21), none, .ld 1 true (.t 20)⟩,
         ⟨(some 8), none, .alc 42 1 [(.ar true 116 1 [])]⟩,
         ⟨(some 7), none, .asn (.t 19)⟩,
         ⟨none, none, .st 1 false (.t 8) (.t 21)⟩]) (
      .seq (
       .reg none [⟨(some 22), none, .mv (.t 1)⟩,
         ⟨(some 23), none, .mv (.t 7)⟩,
         ⟨(some 24), none, .iad 1 (.t 22) (.t 23)⟩,
         ⟨(some 25), none, .ld 1 true (.t 24)⟩,
         ⟨(some 9), none, .alc 42 1 [(.ar true 116 1 [])]⟩,
         ⟨none, none, .st 1 false (.t 9) (.t 25)⟩]) (
      .seq (
       .reg none [⟨(some 26), none, .mv (.t 2)⟩,
         ⟨(some 27), none, .ld 1 true (.t 8)⟩,
         ⟨(some 28), none, .ld 1 true (.t 9)⟩,
         ⟨(some 29), none, .callv (.t 26) [(.t 27), (.t 28)]⟩,
         ⟨(some 30), none, .not (.t 29)⟩]) (
      .cond (.t 30) (
       .seq (
        .reg none [⟨(some 6), none, .asn (.c (.bool false))⟩]) (
       .ret)) (
       .skip)))))) (
    .reg none [⟨(some 31), none, .bin .add (.t 17) (.c (.int .i64 (1)))⟩,
      ⟨(some 17), none, .mv (.t 31)⟩]))))))) (
 .seq (
  .reg none [⟨(some 6), none, .asn (.c (.bool true))⟩]) (
 .ret))))
def r_slices_EqualFunc_impl_Gram_impl_Gram_impl_Gram_impl_Gram : Nat × List RV := (32, [.t 6])

theorem c_slices_EqualFunc_impl_Gram_impl_Gram_impl_Gram_impl_Gram : cmpS PT PF PA (Tryz.prog.funcs[40]?) = some (r_slices_EqualFunc_impl_Gram_impl_Gram_impl_Gram_impl_Gram.1, r_slices_EqualFunc_impl_Gram_impl_Gram_impl_Gram_impl_Gram.2, stripK k_slices_EqualFunc_impl_Gram_impl_Gram_impl_Gram_impl_Gram) := by kernel_rfl

theorem h_EqF_Gram (f : Nat) (hf : PF.contains f = true) (xs ys : List TGram) (hx : xs.length < 2 ^ 40) (hc : ∀ i j (h : i < xs.length) (h2 : j < ys.length), CallsF Tryz.prog f [.agg (sGram xs[i]), .agg (sGram ys[j])] (aB (decide (xs[i] = ys[j])))) :
    CallsF Tryz.prog 40 [.one (.ar false 0 1 (xs.map sGram)), .one (.ar false 0 1 (ys.map sGram)), .one (.fn f [])] (aB (decide (xs = ys))) := by
  refine Prun c_slices_EqualFunc_impl_Gram_impl_Gram_impl_Gram_impl_Gram (by simp [r_slices_EqualFunc_impl_Gram_impl_Gram_impl_Gram_impl_Gram]) (by simp) ?_
  unfold k_slices_EqualFunc_impl_Gram_impl_Gram_impl_Gram_impl_Gram r_slices_EqualFunc_impl_Gram_impl_Gram_impl_Gram_impl_Gram
  have hok := PfnOk f hf
  by_cases hl : xs.length = ys.length
  · simp [hl]
    refine awp_loop (fun n σ => ∃ i : Nat, i ≤ xs.length ∧ n = xs.length - i ∧ xs.take i = ys.take i ∧ σ = ⟨[(1, .one (.ar false 0 1 (ys.map sGram))), (2, .one (.fn f [])), (15, .one (.ar false 0 1 (xs.map sGram))), (16, aI xs.length), (17, aI i)], []⟩) (xs.length) ⟨0, by simp [hl]⟩ ?_
    rintro n σ ⟨i, hi, rfl, ht, rfl⟩
    by_cases h : i < xs.length
    · have h2 : i < ys.length := by omega
      simp [h, h2, sGram, hok]
      refine callG_F (hc i i h h2) (by simp) ?_
      by_cases he : xs[i] = ys[i]
      · simp [he]
        refine ⟨xs.length - (i + 1), by omega, i + 1, by omega, rfl, (take_step h h2).2 ⟨ht, he⟩, ?_⟩
        rw [wrapI (by omega) (by omega)]
        simp
      · simp [he]
        intro hh
        subst hh
        exact he rfl
    · simp [h]
      have : i = xs.length := by omega
      rw [this, List.take_length, hl, List.take_length] at ht
      exact ht
  · have : ¬ (xs.length : Int) = ys.length := by omega
    simp [this]
    rintro rfl
    exact hl rfl
end Go.Am
-- Conf_y
namespace Go.Am
open Go.Proofs
set_option maxHeartbeats 4000000
set_option maxRecDepth 100000
structure TConf where
  alt : Int
  row : List Int
  deriving DecidableEq, Inhabited
def rConf (a : TConf) : List C := [cI a.alt, .ar true 3 1 (a.row.map rI)]
def sConf (a : TConf) : List C := [cI a.alt, .ar false 0 1 (a.row.map rI)]
def zConf : List C := [cI 0, .ar true 3 1 []]
@[simp] theorem rConf_len (a : TConf) : (rConf a).length = 2 := rfl
@[simp] theorem sConf_len (a : TConf) : (sConf a).length = 2 := rfl
@[simp] theorem shr_rConf (a : TConf) : shrRow (rConf a) = sConf a := by simp [rConf, sConf]
@[simp] theorem shr_sConf (a : TConf) : shrRow (sConf a) = sConf a := by simp [sConf]
@[simp] theorem shrs_rConf (xs : List TConf) : shrRows (xs.map rConf) = xs.map sConf := shrRows_of shr_rConf xs
@[simp] theorem shrs_sConf (xs : List TConf) : shrRows (xs.map sConf) = xs.map sConf := shrRows_of shr_sConf xs
@[simp] theorem noSh_rConf (xs : List TConf) : noShRows (xs.map rConf) = true := noSh_of (fun a => by simp [rConf]) xs
def wConf (a : TConf) : Nat := wL w0 a.row
def lConf (a : TConf) : Prop := lL l0 a.row
def mConf : Mk TConf := ⟨fun a k => ⟨k, mI.mkL a.row (k + 1)⟩, fun a => 1 + mI.nL a.row⟩
@[simp] theorem mConf_wr (a : TConf) (k : Int) : mConf.wr a k = ⟨k, mI.mkL a.row (k + 1)⟩ := rfl
@[simp] theorem mConf_n (a : TConf) : mConf.n a = 1 + mI.nL a.row := rfl
end Go.Am
-- Line_y
namespace Go.Am
open Go.Proofs
set_option maxHeartbeats 4000000
set_option maxRecDepth 100000
structure TLine where
  frm : List TConf
  letter : Int
  too : List TConf
  deriving DecidableEq, Inhabited
def rLine (a : TLine) : List C := [.ar true 103 2 (a.frm.map rConf), cI a.letter, .ar true 103 2 (a.too.map rConf)]
def sLine (a : TLine) : List C := [.ar false 0 2 (a.frm.map sConf), cI a.letter, .ar false 0 2 (a.too.map sConf)]
def zLine : List C := [.ar true 103 2 [], cI 0, .ar true 103 2 []]
@[simp] theorem rLine_len (a : TLine) : (rLine a).length = 3 := rfl
@[simp] theorem sLine_len (a : TLine) : (sLine a).length = 3 := rfl
@[simp] theorem shr_rLine (a : TLine) : shrRow (rLine a) = sLine a := by simp [rLine, sLine]
@[simp] theorem shr_sLine (a : TLine) : shrRow (sLine a) = sLine a := by simp [sLine]
@[simp] theorem shrs_rLine (xs : List TLine) : shrRows (xs.map rLine) = xs.map sLine := shrRows_of shr_rLine xs
@[simp] theorem shrs_sLine (xs : List TLine) : shrRows (xs.map sLine) = xs.map sLine := shrRows_of shr_sLine xs
@[simp] theorem noSh_rLine (xs : List TLine) : noShRows (xs.map rLine) = true := noSh_of (fun a => by simp [rLine]) xs
def wLine (a : TLine) : Nat := wL wConf a.frm + wL wConf a.too
def lLine (a : TLine) : Prop := lL lConf a.frm ∧ lL lConf a.too
def mLine : Mk TLine := ⟨fun a k => ⟨mConf.mkL a.frm (k), k + mConf.nL a.frm, mConf.mkL a.too (k + mConf.nL a.frm + 1)⟩, fun a => mConf.nL a.frm + 1 + mConf.nL a.too⟩
@[simp] theorem mLine_wr (a : TLine) (k : Int) : mLine.wr a k = ⟨mConf.mkL a.frm (k), k + mConf.nL a.frm, mConf.mkL a.too (k + mConf.nL a.frm + 1)⟩ := rfl
@[simp] theorem mLine_n (a : TLine) : mLine.n a = mConf.nL a.frm + 1 + mConf.nL a.too := rfl
end Go.Am
-- Store_y
namespace Go.Am
open Go.Proofs
set_option maxHeartbeats 4000000
set_option maxRecDepth 100000
structure TStore where
  cap : Int
  lines : List TLine
  deriving DecidableEq, Inhabited
def rStore (a : TStore) : List C := [cI a.cap, .ar true 118 3 (a.lines.map rLine)]
def sStore (a : TStore) : List C := [cI a.cap, .ar false 0 3 (a.lines.map sLine)]
def zStore : List C := [cI 0, .ar true 118 3 []]
@[simp] theorem rStore_len (a : TStore) : (rStore a).length = 2 := rfl
@[simp] theorem sStore_len (a : TStore) : (sStore a).length = 2 := rfl
@[simp] theorem shr_rStore (a : TStore) : shrRow (rStore a) = sStore a := by simp [rStore, sStore]
@[simp] theorem shr_sStore (a : TStore) : shrRow (sStore a) = sStore a := by simp [sStore]
@[simp] theorem shrs_rStore (xs : List TStore) : shrRows (xs.map rStore) = xs.map sStore := shrRows_of shr_rStore xs
@[simp] theorem shrs_sStore (xs : List TStore) : shrRows (xs.map sStore) = xs.map sStore := shrRows_of shr_sStore xs
@[simp] theorem noSh_rStore (xs : List TStore) : noShRows (xs.map rStore) = true := noSh_of (fun a => by simp [rStore]) xs
def wStore (a : TStore) : Nat := wL wLine a.lines
def lStore (a : TStore) : Prop := lL lLine a.lines
def mStore : Mk TStore := ⟨fun a k => ⟨k, mLine.mkL a.lines (k + 1)⟩, fun a => 1 + mLine.nL a.lines⟩
@[simp] theorem mStore_wr (a : TStore) (k : Int) : mStore.wr a k = ⟨k, mLine.mkL a.lines (k + 1)⟩ := rfl
@[simp] theorem mStore_n (a : TStore) : mStore.n a = 1 + mLine.nL a.lines := rfl
end Go.Am
-- EqF_Store
namespace Go.Am
open Go.Proofs
set_option maxHeartbeats 4000000
set_option maxRecDepth 100000
-- 42 slices.EqualFunc[[]loop.example/g00485/impl.Store,[]loop.example/g00485/impl.Store,loop.example/g00485/impl.Store,loop.example/g00485/impl.Store]
def k_slices_EqualFunc_impl_Store_impl_Store_impl_Store_impl_Store : K :=
 .seq (
  .reg none [⟨(some 6), none, .asn (.c (.bool false))⟩]) (
 .seq (
  .seq (
   .reg none [⟨(some 10), none, .mv (.t 0)⟩,
     ⟨(some 11), none, .len (.t 10)⟩,
     ⟨(some 12), none, .mv (.t 1)⟩,
     ⟨(some 13), none, .len (.t 12)⟩,
     ⟨(some 14), none, .bin .neq (.t 11) (.t 13)⟩]) (
  .cond (.t 14) (
   .seq (
    .reg none [⟨(some 6), none, .asn (.c (.bool false))⟩]) (
   .ret)) (
   .skip))) (
 .seq (
  .seq (
   .reg none [⟨(some 15), none, .mv (.t 0)⟩,
     ⟨(some 16), none, .len (.t 15)⟩,
     ⟨(some 17), none, .mv (.c (.int .i64 (0)))⟩]) (
  .block 0 (
   .loop (some ([1, 2, 15, 16, 17], [0, 1, 2, 1000])) (
    .seq (
     .reg none [⟨(some 18), none, .bin .lss (.t 17) (.t 16)⟩]) (
    .seq (
     .cond (.t 18) (
      .skip) (
      .exit 0)) (
    .seq (
     .block 1 (
      .seq (
       .reg none [⟨(some 19), none, .mv (.t 17)⟩,
         ⟨(some 20), none, .iad 2 (.t 15) (.t 17)⟩,
         ⟨(some 21), none, .ld 2 true (.t 20)⟩,
         ⟨(some 8), none, .alc 57 2 [(.int .i64 (0)), (.ar true 118 3 [])]⟩,
         ⟨(some 7), none, .asn (.t 19)⟩,
         ⟨none, none, .st 2 false (.t 8) (.t 21)⟩]) (
      .seq (
       .reg none [⟨(some 22), none, .mv (.t 1)⟩,
         ⟨(some 23), none, .mv (.t 7)⟩,
         ⟨(some 24), none, .iad 2 (.t 22) (.t 23)⟩,
         ⟨(some 25), none, .ld 2 true (.t 24)⟩,
         ⟨(some 9), none, .alc 57 2 [(.int .i64 (0)), (.ar true 118 3 [])]⟩,
         ⟨none, none, .st 2 false (.t 9) (.t 25)⟩]) (
      .seq (
       .reg none [⟨(some 26), none, .mv (.t 2)⟩,
         ⟨(some 27), none, .ld 2 true (.t 8)⟩,
         ⟨(some 28), none, .ld 2 true (.t 9)⟩,
         ⟨(some 29), none, .callv (.t 26) [(.t 27), (.t 28)]⟩,
         ⟨(some 30), none, .not (.t 29)⟩]) (
      .cond (.t 30) (
       .seq (
        .reg none [⟨(some 6), none, .asn (.c (.bool false))⟩]) (
       .ret)) (
       .skip)))))) (
    .reg none [⟨(some 31), none, .bin .add (.t 17) (.c (.int .i64 (1)))⟩,
      ⟨(some 17), none, .mv (.t 31)⟩]))))))) (
 .seq (
  .reg none [⟨(some 6), none, .asn (.c (.bool true))⟩]) (
 .ret))))
def r_slices_EqualFunc_impl_Store_impl_Store_impl_Store_impl_Store : Nat × List RV := (32, [.t 6])

theorem c_slices_EqualFunc_impl_Store_impl_Store_impl_Store_impl_Store : cmpS PT PF PA (Tryz.prog.funcs[42]?) = some (r_slices_EqualFunc_impl_Store_impl_Store_impl_Store_impl_Store.1, r_slices_EqualFunc_impl_Store_impl_Store_impl_Store_impl_Store.2, stripK k_slices_EqualFunc_impl_Store_impl_Store_impl_Store_impl_Store) := by kernel_rfl

theorem h_EqF_Store (f : Nat) (hf : PF.contains f = true) (xs ys : List TStore) (hx : xs.length < 2 ^ 40) (hc : ∀ i j (h : i < xs.length) (h2 : j < ys.length), CallsF Tryz.prog f [.agg (sStore xs[i]), .agg (sStore ys[j])] (aB (decide (xs[i] = ys[j])))) :
    CallsF Tryz.prog 42 [.one (.ar false 0 2 (xs.map sStore)), .one (.ar false 0 2 (ys.map sStore)), .one (.fn f [])] (aB (decide (xs = ys))) := by
  refine Prun c_slices_EqualFunc_impl_Store_impl_Store_impl_Store_impl_Store (by simp [r_slices_EqualFunc_impl_Store_impl_Store_impl_Store_impl_Store]) (by simp) ?_
  unfold k_slices_EqualFunc_impl_Store_impl_Store_impl_Store_impl_Store r_slices_EqualFunc_impl_Store_impl_Store_impl_Store_impl_Store
  have hok := PfnOk f hf
  by_cases hl : xs.length = ys.length
  · simp [hl]
    refine awp_loop (fun n σ => ∃ i : Nat, i ≤ xs.length ∧ n = xs.length - i ∧ xs.take i = ys.take i ∧ σ = ⟨[(1, .one (.ar false 0 2 (ys.map sStore))), (2, .one (.fn f [])), (15, .one (.ar false 0 2 (xs.map sStore))), (16, aI xs.length), (17, aI i)], []⟩) (xs.length) ⟨0, by simp [hl]⟩ ?_
    rintro n σ ⟨i, hi, rfl, ht, rfl⟩
    by_cases h : i < xs.length
    · have h2 : i < ys.length := by omega
      simp [h, h2, sStore, hok]
      refine callG_F (hc i i h h2) (by simp) ?_
      by_cases he : xs[i] = ys[i]
      · simp [he]
        refine ⟨xs.length - (i + 1), by omega, i + 1, by omega, rfl, (take_step h h2).2 ⟨ht, he⟩, ?_⟩
        rw [wrapI (by omega) (by omega)]
        simp
      · simp [he]
        intro hh
        subst hh
        exact he rfl
    · simp [h]
      have : i = xs.length := by omega
      rw [this, List.take_length, hl, List.take_length] at ht
      exact ht
  · have : ¬ (xs.length : Int) = ys.length := by omega
    simp [this]
    rintro rfl
    exact hl rfl
end Go.Am
-- cmpi
namespace Go.Am
open Go.Proofs
set_option maxHeartbeats 4000000
set_option maxRecDepth 100000
def ordI (a b : Int) : Int := if a < b then -1 else if b < a then 1 else 0
def ordL : List Int → List Int → Int
  | [], [] => 0
  | [], _ :: _ => -1
  | _ :: _, [] => 1
  | a :: u, b :: v => if ordI a b = 0 then ordL u v else ordI a b
def orI : List Int → Int
  | [] => 0
  | a :: u => if a = 0 then orI u else a
theorem ordI_eq {a b : Int} : ordI a b = 0 ↔ a = b := by unfold ordI; split <;> (try split) <;> omega
theorem ordL_eq : ∀ {a b : List Int}, ordL a b = 0 ↔ a = b
  | [], [] => by simp [ordL]
  | [], _ :: _ => by simp [ordL]
  | _ :: _, [] => by simp [ordL]
  | a :: u, b :: v => by
    simp only [ordL]
    by_cases h : ordI a b = 0
    · rw [if_pos h, ordL_eq]
      have := ordI_eq.1 h
      subst this
      simp
    · rw [if_neg h]
      constructor
      · intro h2; exact absurd h2 h
      · intro h2
        injection h2 with h3 h4
        exact absurd (ordI_eq.2 h3) h
theorem ordL_step {a b : List Int} {i : Nat} (ha : i < a.length) (hb : i < b.length) : ordL (a.drop i) (b.drop i) = if ordI a[i] b[i] = 0 then ordL (a.drop (i + 1)) (b.drop (i + 1)) else ordI a[i] b[i] := by
  rw [List.drop_eq_getElem_cons ha, List.drop_eq_getElem_cons hb, ordL]
theorem ordL_end {a b : List Int} {i : Nat} (h : a.length ≤ i ∨ b.length ≤ i) (ha : i ≤ a.length) (hb : i ≤ b.length) : ordL (a.drop i) (b.drop i) = if a.length < b.length then -1 else if b.length < a.length then 1 else 0 := by
  rcases Nat.lt_trichotomy a.length b.length with hl | hl | hl
  · have : i = a.length := by omega
    rw [if_pos hl, List.drop_eq_nil_of_le (by omega : a.length ≤ i), List.drop_eq_getElem_cons (by omega : i < b.length)]
    rfl
  · rw [if_neg (by omega), if_neg (by omega), List.drop_eq_nil_of_le (by omega : a.length ≤ i), List.drop_eq_nil_of_le (by omega : b.length ≤ i)]
    rfl
  · rw [if_neg (by omega), if_pos hl, List.drop_eq_nil_of_le (by omega : b.length ≤ i), List.drop_eq_getElem_cons (by omega : i < a.length)]
    rfl
end Go.Am
-- ListCmp
namespace Go.Am
open Go.Proofs
set_option maxHeartbeats 4000000
set_option maxRecDepth 100000
def bitI (b : Bool) : Int := if b then 1 else 0
-- 178 loop.example/g00485/spec.l1Bit
def k_spec_l1Bit : K :=
 .seq (
  .reg none [⟨(some 2), none, .asn (.c (.int .i64 (0)))⟩]) (
 .seq (
  .seq (
   .reg none [⟨(some 3), none, .mv (.t 0)⟩]) (
  .cond (.t 3) (
   .seq (
    .reg none [⟨(some 2), none, .asn (.c (.int .i64 (1)))⟩]) (
   .ret)) (
   .skip))) (
 .seq (
  .reg none [⟨(some 2), none, .asn (.c (.int .i64 (0)))⟩]) (
 .ret)))
def r_spec_l1Bit : Nat × List RV := (4, [.t 2])

theorem c_spec_l1Bit : cmpS PT PF PA (Tryz.prog.funcs[178]?) = some (r_spec_l1Bit.1, r_spec_l1Bit.2, stripK k_spec_l1Bit) := by kernel_rfl

theorem h_spec_l1Bit (b : Bool) : CallsF Tryz.prog 178 [aB b] (aI (bitI b)) := by
  refine Prun c_spec_l1Bit (by simp [r_spec_l1Bit]) (by simp) ?_
  unfold k_spec_l1Bit r_spec_l1Bit
  cases b <;> simp [bitI]
-- 142 loop.example/g00485/spec.ListCmp
def k_spec_ListCmp : K :=
 .seq (
  .reg none [⟨(some 4), none, .asn (.c (.int .i64 (0)))⟩]) (
 .seq (
  .seq (
   .reg none [⟨(some 5), none, .asn (.c (.int .i64 (0)))⟩]) (
  .block 0 (
   .loop (some ([0, 1, 5], [0, 1, 5, 1000])) (
    .seq (
     .seq (
      .reg none [⟨(some 6), none, .mv (.t 5)⟩,
        ⟨(some 7), none, .mv (.t 0)⟩,
        ⟨(some 8), none, .len (.t 7)⟩,
        ⟨(some 9), none, .bin .lss (.t 6) (.t 8)⟩,
        ⟨(some 10), none, .mv (.t 9)⟩,
        ⟨(some 11), (some (10, true)), .mv (.t 5)⟩,
        ⟨(some 12), (some (10, true)), .mv (.t 1)⟩,
        ⟨(some 13), (some (10, true)), .len (.t 12)⟩,
        ⟨(some 14), (some (10, true)), .bin .lss (.t 11) (.t 13)⟩,
        ⟨(some 15), none, .pick (.t 10) (.t 14) (.c (.bool false))⟩]) (
     .cond (.t 15) (
      .skip) (
      .exit 0))) (
    .seq (
     .block 1 (
      .seq (
       .seq (
        .drw none 9 [⟨(some 18), none, .mv (.t 0)⟩,
          ⟨(some 19), none, .mv (.t 5)⟩,
          ⟨(some 20), none, .iad 1 (.t 18) (.t 19)⟩,
          ⟨(some 21), none, .ld 1 false (.t 20)⟩,
          ⟨(some 22), none, .mv (.t 1)⟩,
          ⟨(some 23), none, .mv (.t 5)⟩,
          ⟨(some 24), none, .iad 1 (.t 22) (.t 23)⟩,
          ⟨(some 25), none, .ld 1 false (.t 24)⟩,
          ⟨(some 26), none, .bin .lss (.t 21) (.t 25)⟩]) (
       .cond (.t 26) (
        .seq (
         .reg none [⟨(some 4), none, .asn (.c (.int .i64 (-1)))⟩]) (
        .ret)) (
        .skip))) (
      .seq (
       .drw none 9 [⟨(some 27), none, .mv (.t 0)⟩,
         ⟨(some 28), none, .mv (.t 5)⟩,
         ⟨(some 29), none, .iad 1 (.t 27) (.t 28)⟩,
         ⟨(some 30), none, .ld 1 false (.t 29)⟩,
         ⟨(some 31), none, .mv (.t 1)⟩,
         ⟨(some 32), none, .mv (.t 5)⟩,
         ⟨(some 33), none, .iad 1 (.t 31) (.t 32)⟩,
         ⟨(some 34), none, .ld 1 false (.t 33)⟩,
         ⟨(some 35), none, .bin .gtr (.t 30) (.t 34)⟩]) (
      .cond (.t 35) (
       .seq (
        .reg none [⟨(some 4), none, .asn (.c (.int .i64 (1)))⟩]) (
       .ret)) (
       .skip))))) (
    .reg none [⟨(some 16), none, .mv (.t 5)⟩,
      ⟨(some 17), none, .bin .add (.t 16) (.c (.int .i64 (1)))⟩,
      ⟨(some 5), none, .asn (.t 17)⟩])))))) (
 .seq (
  .seq (
   .reg none [⟨(some 36), none, .mv (.t 0)⟩,
     ⟨(some 37), none, .len (.t 36)⟩,
     ⟨(some 38), none, .mv (.t 1)⟩,
     ⟨(some 39), none, .len (.t 38)⟩,
     ⟨(some 40), none, .bin .lss (.t 37) (.t 39)⟩]) (
  .cond (.t 40) (
   .seq (
    .reg none [⟨(some 4), none, .asn (.c (.int .i64 (-1)))⟩]) (
   .ret)) (
   .skip))) (
 .seq (
  .reg none [⟨(some 41), none, .mv (.t 0)⟩,
    ⟨(some 42), none, .len (.t 41)⟩,
    ⟨(some 43), none, .mv (.t 1)⟩,
    ⟨(some 44), none, .len (.t 43)⟩,
    ⟨(some 45), none, .bin .gtr (.t 42) (.t 44)⟩,
    ⟨(some 46), none, .call 178 [(.t 45)]⟩,
    ⟨(some 4), none, .asn (.t 46)⟩]) (
 .ret))))
def r_spec_ListCmp : Nat × List RV := (47, [.t 4])

theorem c_spec_ListCmp : cmpS PT PF PA (Tryz.prog.funcs[142]?) = some (r_spec_ListCmp.1, r_spec_ListCmp.2, stripK k_spec_ListCmp) := by kernel_rfl

theorem h_spec_ListCmp (xs ys : List Int) (hx : xs.length < 2 ^ 40) : CallsF Tryz.prog 142 [.one (.ar false 0 1 (xs.map rI)), .one (.ar false 0 1 (ys.map rI))] (aI (ordL xs ys)) := by
  refine Prun c_spec_ListCmp (by simp [r_spec_ListCmp]) (by simp) ?_
  unfold k_spec_ListCmp r_spec_ListCmp
  simp
  refine awp_loop (fun n σ => ∃ i : Nat, i ≤ xs.length ∧ i ≤ ys.length ∧ n = xs.length - i ∧ ordL xs ys = ordL (xs.drop i) (ys.drop i) ∧ σ = ⟨[(0, .one (.ar false 0 1 (xs.map rI))), (1, .one (.ar false 0 1 (ys.map rI))), (5, aI i)], []⟩) (xs.length) ⟨0, by simp⟩ ?_
  rintro n σ ⟨i, hi, hi2, rfl, ht, rfl⟩
  have hend : ∀ h : xs.length ≤ i ∨ ys.length ≤ i, ordL xs ys = if xs.length < ys.length then -1 else bitI (decide (ys.length < xs.length)) := fun h => by
    rw [ht, ordL_end h hi hi2]; simp [bitI]
  by_cases h : i < xs.length
  · by_cases h2 : i < ys.length
    · rw [ordL_step h h2] at ht
      by_cases c1 : xs[i] < ys[i]
      · have : ordI xs[i] ys[i] = -1 := by unfold ordI; rw [if_pos c1]
        rw [this, if_neg (by omega)] at ht
        simp [h, h2, c1, ht]
      · by_cases c2 : ys[i] < xs[i]
        · have : ordI xs[i] ys[i] = 1 := by unfold ordI; rw [if_neg c1, if_pos c2]
          rw [this, if_neg (by omega)] at ht
          simp [h, h2, c1, c2, ht]
        · have : ordI xs[i] ys[i] = 0 := by unfold ordI; rw [if_neg c1, if_neg c2]
          rw [this, if_pos rfl] at ht
          simp [h, h2, c1, c2]
          refine ⟨xs.length - (i + 1), by omega, i + 1, by omega, by omega, rfl, ht, ?_⟩
          rw [wrapI (by omega) (by omega)]
          simp
    · have he := hend (.inr (by omega))
      by_cases c1 : xs.length < ys.length
      · omega
      · have c3 : ¬ (xs.length : Int) < ys.length := by omega
        rw [if_neg c1] at he
        simp [h, h2, c1]
        refine callG_F (h_spec_l1Bit _) (by simp) ?_
        simp [he]
  · have he := hend (.inl (by omega))
    by_cases c1 : xs.length < ys.length
    · rw [if_pos c1] at he
      simp [h, c1, he]
    · rw [if_neg c1] at he
      simp [h, c1]
      refine callG_F (h_spec_l1Bit _) (by simp) ?_
      simp [he]
end Go.Am
-- Compare
namespace Go.Am
open Go.Proofs
set_option maxHeartbeats 4000000
set_option maxRecDepth 100000
-- 235 cmp.isNaN[int]
def k_cmp_isNaN_int : K :=
 .seq (
  .reg none [⟨(some 2), none, .asn (.c (.bool false))⟩]) (
 .seq (
  .reg none [⟨(some 3), none, .mv (.t 0)⟩,
    ⟨(some 4), none, .mv (.t 0)⟩,
    ⟨(some 5), none, .bin .neq (.t 3) (.t 4)⟩,
    ⟨(some 2), none, .asn (.t 5)⟩]) (
 .ret))
def r_cmp_isNaN_int : Nat × List RV := (6, [.t 2])

theorem c_cmp_isNaN_int : cmpS PT PF PA (Tryz.prog.funcs[235]?) = some (r_cmp_isNaN_int.1, r_cmp_isNaN_int.2, stripK k_cmp_isNaN_int) := by kernel_rfl

theorem h_isNaN (a : Int) : CallsF Tryz.prog 235 [aI a] (aB false) := by
  refine Prun c_cmp_isNaN_int (by simp [r_cmp_isNaN_int]) (by simp) ?_
  unfold k_cmp_isNaN_int r_cmp_isNaN_int
  simp
-- 212 cmp.Compare[int]
def k_cmp_Compare_int : K :=
 .seq (
  .reg none [⟨(some 4), none, .asn (.c (.int .i64 (0)))⟩]) (
 .seq (
  .reg none [⟨(some 7), none, .mv (.t 0)⟩,
    ⟨(some 8), none, .call 235 [(.t 7)]⟩,
    ⟨(some 5), none, .asn (.t 8)⟩]) (
 .seq (
  .reg none [⟨(some 9), none, .mv (.t 1)⟩,
    ⟨(some 10), none, .call 235 [(.t 9)]⟩,
    ⟨(some 6), none, .asn (.t 10)⟩]) (
 .seq (
  .seq (
   .reg none [⟨(some 11), none, .mv (.t 5)⟩]) (
  .cond (.t 11) (
   .seq (
    .seq (
     .reg none [⟨(some 12), none, .mv (.t 6)⟩]) (
    .cond (.t 12) (
     .seq (
      .reg none [⟨(some 4), none, .asn (.c (.int .i64 (0)))⟩]) (
     .ret)) (
     .skip))) (
   .seq (
    .reg none [⟨(some 4), none, .asn (.c (.int .i64 (-1)))⟩]) (
   .ret))) (
   .skip))) (
 .seq (
  .seq (
   .reg none [⟨(some 13), none, .mv (.t 6)⟩]) (
  .cond (.t 13) (
   .seq (
    .reg none [⟨(some 4), none, .asn (.c (.int .i64 (1)))⟩]) (
   .ret)) (
   .skip))) (
 .seq (
  .seq (
   .reg none [⟨(some 14), none, .mv (.t 0)⟩,
     ⟨(some 15), none, .mv (.t 1)⟩,
     ⟨(some 16), none, .bin .lss (.t 14) (.t 15)⟩]) (
  .cond (.t 16) (
   .seq (
    .reg none [⟨(some 4), none, .asn (.c (.int .i64 (-1)))⟩]) (
   .ret)) (
   .skip))) (
 .seq (
  .seq (
   .reg none [⟨(some 17), none, .mv (.t 0)⟩,
     ⟨(some 18), none, .mv (.t 1)⟩,
     ⟨(some 19), none, .bin .gtr (.t 17) (.t 18)⟩]) (
  .cond (.t 19) (
   .seq (
    .reg none [⟨(some 4), none, .asn (.c (.int .i64 (1)))⟩]) (
   .ret)) (
   .skip))) (
 .seq (
  .reg none [⟨(some 4), none, .asn (.c (.int .i64 (0)))⟩]) (
 .ret))))))))
def r_cmp_Compare_int : Nat × List RV := (20, [.t 4])

theorem c_cmp_Compare_int : cmpS PT PF PA (Tryz.prog.funcs[212]?) = some (r_cmp_Compare_int.1, r_cmp_Compare_int.2, stripK k_cmp_Compare_int) := by kernel_rfl

theorem h_cmpCompare (a b : Int) : CallsF Tryz.prog 212 [aI a, aI b] (aI (ordI a b)) := by
  refine Prun c_cmp_Compare_int (by simp [r_cmp_Compare_int]) (by simp) ?_
  unfold k_cmp_Compare_int r_cmp_Compare_int
  simp
  refine callG_F (h_isNaN a) (by simp) ?_
  simp
  refine callG_F (h_isNaN b) (by simp) ?_
  by_cases c1 : a < b
  · simp [c1, ordI]
  · by_cases c2 : b < a
    · simp [c1, c2, ordI]
    · simp [c1, c2, ordI]
-- 211 cmp.Or[int]
def k_cmp_Or_int : K :=
 .seq (
  .reg none [⟨(some 2), none, .asn (.c (.int .i64 (0)))⟩]) (
 .seq (
  .reg none [⟨(some 3), none, .asn (.c (.int .i64 (0)))⟩]) (
 .seq (
  .seq (
   .reg none [⟨(some 6), none, .mv (.t 0)⟩,
     ⟨(some 7), none, .len (.t 6)⟩,
     ⟨(some 8), none, .mv (.c (.int .i64 (0)))⟩]) (
  .block 0 (
   .loop (some ([3, 6, 7, 8], [0, 3, 1000])) (
    .seq (
     .reg none [⟨(some 9), none, .bin .lss (.t 8) (.t 7)⟩]) (
    .seq (
     .cond (.t 9) (
      .skip) (
      .exit 0)) (
    .seq (
     .block 1 (
      .seq (
       .reg none [⟨(some 10), none, .iad 1 (.t 6) (.t 8)⟩,
         ⟨(some 11), none, .ld 1 false (.t 10)⟩,
         ⟨(some 5), none, .asn (.t 11)⟩]) (
      .seq (
       .reg none [⟨(some 12), none, .mv (.t 5)⟩,
         ⟨(some 13), none, .mv (.t 3)⟩,
         ⟨(some 14), none, .bin .neq (.t 12) (.t 13)⟩]) (
      .cond (.t 14) (
       .seq (
        .reg none [⟨(some 15), none, .mv (.t 5)⟩,
          ⟨(some 2), none, .asn (.t 15)⟩]) (
       .ret)) (
       .skip))))) (
    .reg none [⟨(some 16), none, .bin .add (.t 8) (.c (.int .i64 (1)))⟩,
      ⟨(some 8), none, .mv (.t 16)⟩]))))))) (
 .seq (
  .reg none [⟨(some 17), none, .mv (.t 3)⟩,
    ⟨(some 2), none, .asn (.t 17)⟩]) (
 .ret))))
def r_cmp_Or_int : Nat × List RV := (18, [.t 2])

theorem c_cmp_Or_int : cmpS PT PF PA (Tryz.prog.funcs[211]?) = some (r_cmp_Or_int.1, r_cmp_Or_int.2, stripK k_cmp_Or_int) := by kernel_rfl

theorem h_cmpOr (xs : List Int) (hx : xs.length < 2 ^ 40) : CallsF Tryz.prog 211 [.one (.ar false 0 1 (xs.map rI))] (aI (orI xs)) := by
  refine Prun c_cmp_Or_int (by simp [r_cmp_Or_int]) (by simp) ?_
  unfold k_cmp_Or_int r_cmp_Or_int
  simp
  refine awp_loop (fun n σ => ∃ i : Nat, i ≤ xs.length ∧ n = xs.length - i ∧ orI xs = orI (xs.drop i) ∧ σ = ⟨[(3, aI 0), (6, .one (.ar false 0 1 (xs.map rI))), (7, aI xs.length), (8, aI i)], []⟩) (xs.length) ⟨0, by simp⟩ ?_
  rintro n σ ⟨i, hi, rfl, ht, rfl⟩
  by_cases h : i < xs.length
  · rw [List.drop_eq_getElem_cons h, orI] at ht
    by_cases c1 : xs[i] = 0
    · rw [if_pos c1] at ht
      simp [h, c1]
      refine ⟨xs.length - (i + 1), by omega, i + 1, by omega, rfl, ht, ?_⟩
      rw [wrapI (by omega) (by omega)]
      simp
    · rw [if_neg c1] at ht
      simp [h, c1, ht]
  · have : i = xs.length := by omega
    subst this
    rw [List.drop_length, orI] at ht
    simp [ht]
-- 213 slices.Compare[[]int,int]
def k_slices_Compare_int_int : K :=
 .seq (
  .reg none [⟨(some 4), none, .asn (.c (.int .i64 (0)))⟩]) (
 .seq (
  .seq (
   .reg none [⟨(some 9), none, .mv (.t 0)⟩,
     ⟨(some 10), none, .len (.t 9)⟩,
     ⟨(some 11), none, .mv (.c (.int .i64 (0)))⟩]) (
  .block 0 (
   .loop (some ([0, 1, 9, 10, 11], [0, 1, 1000])) (
    .seq (
     .reg none [⟨(some 12), none, .bin .lss (.t 11) (.t 10)⟩]) (
    .seq (
     .cond (.t 12) (
      .skip) (
      .exit 0)) (
    .seq (
     .block 1 (
      .seq (
       .reg none [⟨(some 13), none, .mv (.t 11)⟩,
         ⟨(some 14), none, .iad 1 (.t 9) (.t 11)⟩,
         ⟨(some 15), none, .ld 1 false (.t 14)⟩,
         ⟨(some 5), none, .asn (.t 13)⟩,
         ⟨(some 6), none, .asn (.t 15)⟩]) (
      .seq (
       .seq (
        .reg none [⟨(some 16), none, .mv (.t 5)⟩,
          ⟨(some 17), none, .mv (.t 1)⟩,
          ⟨(some 18), none, .len (.t 17)⟩,
          ⟨(some 19), none, .bin .geq (.t 16) (.t 18)⟩]) (
       .cond (.t 19) (
        .seq (
         .reg none [⟨(some 4), none, .asn (.c (.int .i64 (1)))⟩]) (
        .ret)) (
        .skip))) (
      .seq (
       .reg none [⟨(some 20), none, .mv (.t 1)⟩,
         ⟨(some 21), none, .mv (.t 5)⟩,
         ⟨(some 22), none, .iad 1 (.t 20) (.t 21)⟩,
         ⟨(some 23), none, .ld 1 false (.t 22)⟩,
         ⟨(some 7), none, .asn (.t 23)⟩]) (
      .seq (
       .reg none [⟨(some 24), none, .mv (.t 6)⟩,
         ⟨(some 25), none, .mv (.t 7)⟩,
         ⟨(some 26), none, .call 212 [(.t 24), (.t 25)]⟩,
         ⟨(some 8), none, .asn (.t 26)⟩]) (
      .seq (
       .reg none [⟨(some 27), none, .mv (.t 8)⟩,
         ⟨(some 28), none, .bin .neq (.t 27) (.c (.int .i64 (0)))⟩]) (
      .cond (.t 28) (
       .seq (
        .reg none [⟨(some 29), none, .mv (.t 8)⟩,
          ⟨(some 4), none, .asn (.t 29)⟩]) (
       .ret)) (
       .skip)))))))) (
    .reg none [⟨(some 30), none, .bin .add (.t 11) (.c (.int .i64 (1)))⟩,
      ⟨(some 11), none, .mv (.t 30)⟩]))))))) (
 .seq (
  .seq (
   .reg none [⟨(some 31), none, .mv (.t 0)⟩,
     ⟨(some 32), none, .len (.t 31)⟩,
     ⟨(some 33), none, .mv (.t 1)⟩,
     ⟨(some 34), none, .len (.t 33)⟩,
     ⟨(some 35), none, .bin .lss (.t 32) (.t 34)⟩]) (
  .cond (.t 35) (
   .seq (
    .reg none [⟨(some 4), none, .asn (.c (.int .i64 (-1)))⟩]) (
   .ret)) (
   .skip))) (
 .seq (
  .reg none [⟨(some 4), none, .asn (.c (.int .i64 (0)))⟩]) (
 .ret))))
def r_slices_Compare_int_int : Nat × List RV := (36, [.t 4])

theorem c_slices_Compare_int_int : cmpS PT PF PA (Tryz.prog.funcs[213]?) = some (r_slices_Compare_int_int.1, r_slices_Compare_int_int.2, stripK k_slices_Compare_int_int) := by kernel_rfl

theorem h_slicesCompare (xs ys : List Int) (hx : xs.length < 2 ^ 40) : CallsF Tryz.prog 213 [.one (.ar false 0 1 (xs.map rI)), .one (.ar false 0 1 (ys.map rI))] (aI (ordL xs ys)) := by
  refine Prun c_slices_Compare_int_int (by simp [r_slices_Compare_int_int]) (by simp) ?_
  unfold k_slices_Compare_int_int r_slices_Compare_int_int
  simp
  refine awp_loop (fun n σ => ∃ i : Nat, i ≤ xs.length ∧ i ≤ ys.length ∧ n = xs.length - i ∧ ordL xs ys = ordL (xs.drop i) (ys.drop i) ∧ σ = ⟨[(0, .one (.ar false 0 1 (xs.map rI))), (1, .one (.ar false 0 1 (ys.map rI))), (9, .one (.ar false 0 1 (xs.map rI))), (10, aI xs.length), (11, aI i)], []⟩) (xs.length) ⟨0, by simp⟩ ?_
  rintro n σ ⟨i, hi, hi2, rfl, ht, rfl⟩
  by_cases h : i < xs.length
  · by_cases h2 : i < ys.length
    · rw [ordL_step h h2] at ht
      have h3 : ¬ ys.length ≤ i := by omega
      simp [h, h2, h3]
      refine callG_F (h_cmpCompare _ _) (by simp) ?_
      by_cases c1 : ordI xs[i] ys[i] = 0
      · rw [if_pos c1] at ht
        simp [c1]
        refine ⟨xs.length - (i + 1), by omega, i + 1, by omega, by omega, rfl, ht, ?_⟩
        rw [wrapI (by omega) (by omega)]
        simp
      · rw [if_neg c1] at ht
        simp [c1, ht]
    · rw [ordL_end (.inr (by omega)) hi hi2, if_neg (by omega), if_pos (by omega)] at ht
      have h3 : ys.length ≤ i := by omega
      simp [h, h3, ht]
  · rw [ordL_end (.inl (by omega)) hi hi2] at ht
    by_cases c1 : xs.length < ys.length
    · rw [if_pos c1] at ht
      simp [h, c1, ht]
    · rw [if_neg c1, if_neg (by omega)] at ht
      simp [h, c1, ht]
end Go.Am
-- SameConf
namespace Go.Am
open Go.Proofs
set_option maxHeartbeats 4000000
set_option maxRecDepth 100000
def ordC (a b : TConf) : Int := orI [ordI a.alt b.alt, ordL a.row b.row]
theorem ordC_eq {a b : TConf} : ordC a b = 0 ↔ a = b := by
  obtain ⟨a1, a2⟩ := a
  obtain ⟨b1, b2⟩ := b
  simp only [ordC, orI, TConf.mk.injEq]
  by_cases h : ordI a1 b1 = 0
  · rw [if_pos h]
    have h1 := ordI_eq.1 h
    by_cases h2 : ordL a2 b2 = 0
    · have h3 := ordL_eq.1 h2
      subst h3
      simp [h2, h1]
    · have : ¬ a2 = b2 := fun e => h2 (ordL_eq.2 e)
      simp [h2, this]
  · have : ¬ a1 = b1 := fun e => h (ordI_eq.2 e)
    simp [h, this]
-- 112 loop.example/g00485/spec.l11Cmp
def k_spec_l11Cmp : K :=
 .seq (
  .reg none [⟨(some 2), none, .box 103 2 (.t 0)⟩,
    ⟨(some 3), none, .box 103 2 (.t 1)⟩,
    ⟨(some 4), none, .asn (.c (.int .i64 (0)))⟩]) (
 .seq (
  .seq (
   .reg none [⟨(some 5), none, .fad 0 (.t 2)⟩,
     ⟨(some 6), none, .ld 1 false (.t 5)⟩,
     ⟨(some 7), none, .fad 0 (.t 3)⟩,
     ⟨(some 8), none, .ld 1 false (.t 7)⟩,
     ⟨(some 9), none, .bin .lss (.t 6) (.t 8)⟩]) (
  .cond (.t 9) (
   .seq (
    .reg none [⟨(some 4), none, .asn (.c (.int .i64 (-1)))⟩]) (
   .ret)) (
   .skip))) (
 .seq (
  .seq (
   .reg none [⟨(some 10), none, .fad 0 (.t 2)⟩,
     ⟨(some 11), none, .ld 1 false (.t 10)⟩,
     ⟨(some 12), none, .fad 0 (.t 3)⟩,
     ⟨(some 13), none, .ld 1 false (.t 12)⟩,
     ⟨(some 14), none, .bin .gtr (.t 11) (.t 13)⟩]) (
  .cond (.t 14) (
   .seq (
    .reg none [⟨(some 4), none, .asn (.c (.int .i64 (1)))⟩]) (
   .ret)) (
   .skip))) (
 .seq (
  .reg none [⟨(some 15), none, .fad 1 (.t 2)⟩,
    ⟨(some 16), none, .ld 1 false (.t 15)⟩,
    ⟨(some 17), none, .fad 1 (.t 3)⟩,
    ⟨(some 18), none, .ld 1 false (.t 17)⟩,
    ⟨(some 19), none, .call 142 [(.t 16), (.t 18)]⟩,
    ⟨(some 4), none, .asn (.t 19)⟩]) (
 .ret))))
def r_spec_l11Cmp : Nat × List RV := (20, [.t 4])

theorem c_spec_l11Cmp : cmpS PT PF PA (Tryz.prog.funcs[112]?) = some (r_spec_l11Cmp.1, r_spec_l11Cmp.2, stripK k_spec_l11Cmp) := by kernel_rfl

theorem h_spec_l11Cmp (a b : TConf) (ha : wConf a < 2 ^ 40) : CallsF Tryz.prog 112 [.agg (sConf a), .agg (sConf b)] (aI (ordC a b)) := by
  refine Prun c_spec_l11Cmp (by simp [r_spec_l11Cmp]) (by simp) ?_
  unfold k_spec_l11Cmp r_spec_l11Cmp
  simp only [wConf, wL_w0] at ha
  simp [sConf]
  by_cases c1 : a.alt < b.alt
  · simp [c1, ordC, orI, ordI]
  · by_cases c2 : b.alt < a.alt
    · simp [c1, c2, ordC, orI, ordI]
    · have e : ordC a b = ordL a.row b.row := by
        have : ordI a.alt b.alt = 0 := by unfold ordI; rw [if_neg c1, if_neg c2]
        simp only [ordC, orI, this, if_true]
        split <;> simp_all
      simp [c1, c2]
      refine callG_F (h_spec_ListCmp a.row b.row (by omega)) (by simp) ?_
      simp [e]
-- 180 loop.example/g00485/impl.compareConfs
def k_impl_compareConfs : K :=
 .seq (
  .reg none [⟨(some 2), none, .box 103 2 (.t 0)⟩,
    ⟨(some 3), none, .box 103 2 (.t 1)⟩,
    ⟨(some 4), none, .asn (.c (.int .i64 (0)))⟩]) (
 .seq (
  .drw none 10 [⟨(some 5), none, .fad 0 (.t 2)⟩,
    ⟨(some 6), none, .ld 1 false (.t 5)⟩,
    ⟨(some 7), none, .fad 0 (.t 3)⟩,
    ⟨(some 8), none, .ld 1 false (.t 7)⟩,
    ⟨(some 9), none, .call 212 [(.t 6), (.t 8)]⟩,
    ⟨(some 10), none, .fad 1 (.t 2)⟩,
    ⟨(some 11), none, .ld 1 false (.t 10)⟩,
    ⟨(some 12), none, .fad 1 (.t 3)⟩,
    ⟨(some 13), none, .ld 1 false (.t 12)⟩,
    ⟨(some 14), none, .call 213 [(.t 11), (.t 13)]⟩,
    ⟨(some 15), none, .bls 3 1 false [(.t 9), (.t 14)]⟩,
    ⟨(some 16), none, .call 211 [(.t 15)]⟩,
    ⟨(some 4), none, .asn (.t 16)⟩]) (
 .ret))
def r_impl_compareConfs : Nat × List RV := (17, [.t 4])

theorem c_impl_compareConfs : cmpS PT PF PA (Tryz.prog.funcs[180]?) = some (r_impl_compareConfs.1, r_impl_compareConfs.2, stripK k_impl_compareConfs) := by kernel_rfl

theorem h_impl_compareConfs (a b : TConf) (ha : wConf a < 2 ^ 40) : CallsF Tryz.prog 180 [.agg (sConf a), .agg (sConf b)] (aI (ordC a b)) := by
  refine Prun c_impl_compareConfs (by simp [r_impl_compareConfs]) (by simp) ?_
  unfold k_impl_compareConfs r_impl_compareConfs
  simp only [wConf, wL_w0] at ha
  simp [sConf]
  refine ⟨_, by simp, h_cmpCompare _ _, ?_⟩
  simp
  refine ⟨_, by simp, h_slicesCompare a.row b.row (by omega), ?_⟩
  simp
  refine callG_F (h_cmpOr [ordI a.alt b.alt, ordL a.row b.row] (by simp)) (by simp) ?_
  simp [ordC]
-- 146 loop.example/g00485/impl.sameConf
def k_impl_sameConf : K :=
 .seq (
  .reg none [⟨(some 2), none, .box 103 2 (.t 0)⟩,
    ⟨(some 3), none, .box 103 2 (.t 1)⟩,
    ⟨(some 4), none, .asn (.c (.bool false))⟩]) (
 .seq (
  .reg none [⟨(some 5), none, .ld 2 true (.t 2)⟩,
    ⟨(some 6), none, .ld 2 true (.t 3)⟩,
    ⟨(some 7), none, .call 180 [(.t 5), (.t 6)]⟩,
    ⟨(some 8), none, .bin .eql (.t 7) (.c (.int .i64 (0)))⟩,
    ⟨(some 4), none, .asn (.t 8)⟩]) (
 .ret))
def r_impl_sameConf : Nat × List RV := (9, [.t 4])

theorem c_impl_sameConf : cmpS PT PF PA (Tryz.prog.funcs[146]?) = some (r_impl_sameConf.1, r_impl_sameConf.2, stripK k_impl_sameConf) := by kernel_rfl

theorem h_impl_sameConf (a b : TConf) (ha : wConf a < 2 ^ 40) : CallsF Tryz.prog 146 [.agg (sConf a), .agg (sConf b)] (aB (decide (a = b))) := by
  refine Prun c_impl_sameConf (by simp [r_impl_sameConf]) (by simp) ?_
  unfold k_impl_sameConf r_impl_sameConf
  simp [sConf]
  refine callG_F (h_impl_compareConfs a b ha) (by simp) ?_
  by_cases h : a = b
  · simp [h, ordC_eq.2 rfl]
  · have : ¬ ordC a b = 0 := fun e => h (ordC_eq.1 e)
    simp [h, this]
-- 73 loop.example/g00485/spec.l12Sets
def k_spec_l12Sets : K :=
 .seq (
  .reg none [⟨(some 4), none, .asn (.c (.bool false))⟩]) (
 .seq (
  .seq (
   .reg none [⟨(some 6), none, .mv (.t 0)⟩,
     ⟨(some 7), none, .len (.t 6)⟩,
     ⟨(some 8), none, .mv (.t 1)⟩,
     ⟨(some 9), none, .len (.t 8)⟩,
     ⟨(some 10), none, .bin .neq (.t 7) (.t 9)⟩]) (
  .cond (.t 10) (
   .seq (
    .reg none [⟨(some 4), none, .asn (.c (.bool false))⟩]) (
   .ret)) (
   .skip))) (
 .seq (
  .seq (
   .reg none [⟨(some 5), none, .asn (.c (.int .i64 (0)))⟩]) (
  .block 0 (
   .loop (some ([0, 1, 5], [0, 1, 5, 1000])) (
    .seq (
     .seq (
      .reg none [⟨(some 11), none, .mv (.t 5)⟩,
        ⟨(some 12), none, .mv (.t 0)⟩,
        ⟨(some 13), none, .len (.t 12)⟩,
        ⟨(some 14), none, .bin .lss (.t 11) (.t 13)⟩]) (
     .cond (.t 14) (
      .skip) (
      .exit 0))) (
    .seq (
     .block 1 (
      .seq (
       .drw none 10 [⟨(some 17), none, .mv (.t 0)⟩,
         ⟨(some 18), none, .mv (.t 5)⟩,
         ⟨(some 19), none, .iad 2 (.t 17) (.t 18)⟩,
         ⟨(some 20), none, .ld 2 true (.t 19)⟩,
         ⟨(some 21), none, .mv (.t 1)⟩,
         ⟨(some 22), none, .mv (.t 5)⟩,
         ⟨(some 23), none, .iad 2 (.t 21) (.t 22)⟩,
         ⟨(some 24), none, .ld 2 true (.t 23)⟩,
         ⟨(some 25), none, .call 112 [(.t 20), (.t 24)]⟩,
         ⟨(some 26), none, .bin .neq (.t 25) (.c (.int .i64 (0)))⟩]) (
      .cond (.t 26) (
       .seq (
        .reg none [⟨(some 4), none, .asn (.c (.bool false))⟩]) (
       .ret)) (
       .skip)))) (
    .reg none [⟨(some 15), none, .mv (.t 5)⟩,
      ⟨(some 16), none, .bin .add (.t 15) (.c (.int .i64 (1)))⟩,
      ⟨(some 5), none, .asn (.t 16)⟩])))))) (
 .seq (
  .reg none [⟨(some 4), none, .asn (.c (.bool true))⟩]) (
 .ret))))
def r_spec_l12Sets : Nat × List RV := (27, [.t 4])

theorem c_spec_l12Sets : cmpS PT PF PA (Tryz.prog.funcs[73]?) = some (r_spec_l12Sets.1, r_spec_l12Sets.2, stripK k_spec_l12Sets) := by kernel_rfl

theorem h_spec_l12Sets (xs ys : List TConf) (hx : wL wConf xs < 2 ^ 40) : CallsF Tryz.prog 73 [.one (.ar false 0 2 (xs.map sConf)), .one (.ar false 0 2 (ys.map sConf))] (aB (decide (xs = ys))) := by
  refine Prun c_spec_l12Sets (by simp [r_spec_l12Sets]) (by simp) ?_
  unfold k_spec_l12Sets r_spec_l12Sets
  have hlen := wL_len wConf xs
  by_cases hl : xs.length = ys.length
  · simp [hl]
    refine awp_loop (fun n σ => ∃ i : Nat, i ≤ xs.length ∧ n = xs.length - i ∧ xs.take i = ys.take i ∧ σ = ⟨[(0, .one (.ar false 0 2 (xs.map sConf))), (1, .one (.ar false 0 2 (ys.map sConf))), (5, aI i)], []⟩) (xs.length) ⟨0, by simp⟩ ?_
    rintro n σ ⟨i, hi, rfl, ht, rfl⟩
    by_cases h : i < xs.length
    · have h2 : i < ys.length := by omega
      have hw := wL_get wConf xs i h
      simp [h, h2, sConf]
      refine ⟨_, by simp, h_spec_l11Cmp xs[i] ys[i] (by omega), ?_⟩
      by_cases he : xs[i] = ys[i]
      · simp [ordC_eq.2 he]
        refine ⟨xs.length - (i + 1), by omega, i + 1, by omega, rfl, (take_step h h2).2 ⟨ht, he⟩, ?_⟩
        rw [wrapI (by omega) (by omega)]
        simp
      · have : ¬ ordC xs[i] ys[i] = 0 := fun e => he (ordC_eq.1 e)
        simp [this]
        intro hh
        subst hh
        exact he rfl
    · simp [h]
      have : i = xs.length := by omega
      rw [this, List.take_length, hl, List.take_length] at ht
      exact ht
  · have : ¬ (xs.length : Int) = ys.length := by omega
    simp [this]
    rintro rfl
    exact hl rfl
end Go.Am
-- EqF_Conf
namespace Go.Am
open Go.Proofs
set_option maxHeartbeats 4000000
set_option maxRecDepth 100000
-- 145 slices.EqualFunc[[]loop.example/g00485/impl.Conf,[]loop.example/g00485/impl.Conf,loop.example/g00485/impl.Conf,loop.example/g00485/impl.Conf]
def k_slices_EqualFunc_impl_Conf_impl_Conf_impl_Conf_impl_Conf : K :=
 .seq (
  .reg none [⟨(some 6), none, .asn (.c (.bool false))⟩]) (
 .seq (
  .seq (
   .reg none [⟨(some 10), none, .mv (.t 0)⟩,
     ⟨(some 11), none, .len (.t 10)⟩,
     ⟨(some 12), none, .mv (.t 1)⟩,
     ⟨(some 13), none, .len (.t 12)⟩,
     ⟨(some 14), none, .bin .neq (.t 11) (.t 13)⟩]) (
  .cond (.t 14) (
   .seq (
    .reg none [⟨(some 6), none, .asn (.c (.bool false))⟩]) (
   .ret)) (
   .skip))) (
 .seq (
  .seq (
   .reg none [⟨(some 15), none, .mv (.t 0)⟩,
     ⟨(some 16), none, .len (.t 15)⟩,
     ⟨(some 17), none, .mv (.c (.int .i64 (0)))⟩]) (
  .block 0 (
   .loop (some ([1, 2, 15, 16, 17], [0, 1, 2, 1000])) (
    .seq (
     .reg none [⟨(some 18), none, .bin .lss (.t 17) (.t 16)⟩]) (
    .seq (
     .cond (.t 18) (
      .skip) (
      .exit 0)) (
    .seq (
     .block 1 (
      .seq (
       .reg none [⟨(some 19), none, .mv (.t 17)⟩,
         ⟨(some 20), none, .iad 2 (.t 15) (.t 17)⟩,
         ⟨(some 21), none, .ld 2 true (.t 20)⟩,
         ⟨(some 8), none, .alc 103 2 [(.int .i64 (0)), (.ar true 3 1 [])]⟩,
         ⟨(some 7), none, .asn (.t 19)⟩,
         ⟨none, none, .st 2 false (.t 8) (.t 21)⟩]) (
      .seq (
       .reg none [⟨(some 22), none, .mv (.t 1)⟩,
         ⟨(some 23), none, .mv (.t 7)⟩,
         ⟨(some 24), none, .iad 2 (.t 22) (.t 23)⟩,
         ⟨(some 25), none, .ld 2 true (.t 24)⟩,
         ⟨(some 9), none, .alc 103 2 [(.int .i64 (0)), (.ar true 3 1 [])]⟩,
         ⟨none, none, .st 2 false (.t 9) (.t 25)⟩]) (
      .seq (
       .reg none [⟨(some 26), none, .mv (.t 2)⟩,
         ⟨(some 27), none, .ld 2 true (.t 8)⟩,
         ⟨(some 28), none, .ld 2 true (.t 9)⟩,
         ⟨(some 29), none, .callv (.t 26) [(.t 27), (.t 28)]⟩,
         ⟨(some 30), none, .not (.t 29)⟩]) (
      .cond (.t 30) (
       .seq (
        .reg none [⟨(some 6), none, .asn (.c (.bool false))⟩]) (
       .ret)) (
       .skip)))))) (
    .reg none [⟨(some 31), none, .bin .add (.t 17) (.c (.int .i64 (1)))⟩,
      ⟨(some 17), none, .mv (.t 31)⟩]))))))) (
 .seq (
  .reg none [⟨(some 6), none, .asn (.c (.bool true))⟩]) (
 .ret))))
def r_slices_EqualFunc_impl_Conf_impl_Conf_impl_Conf_impl_Conf : Nat × List RV := (32, [.t 6])

theorem c_slices_EqualFunc_impl_Conf_impl_Conf_impl_Conf_impl_Conf : cmpS PT PF PA (Tryz.prog.funcs[145]?) = some (r_slices_EqualFunc_impl_Conf_impl_Conf_impl_Conf_impl_Conf.1, r_slices_EqualFunc_impl_Conf_impl_Conf_impl_Conf_impl_Conf.2, stripK k_slices_EqualFunc_impl_Conf_impl_Conf_impl_Conf_impl_Conf) := by kernel_rfl

theorem h_EqF_Conf (f : Nat) (hf : PF.contains f = true) (xs ys : List TConf) (hx : xs.length < 2 ^ 40) (hc : ∀ i j (h : i < xs.length) (h2 : j < ys.length), CallsF Tryz.prog f [.agg (sConf xs[i]), .agg (sConf ys[j])] (aB (decide (xs[i] = ys[j])))) :
    CallsF Tryz.prog 145 [.one (.ar false 0 2 (xs.map sConf)), .one (.ar false 0 2 (ys.map sConf)), .one (.fn f [])] (aB (decide (xs = ys))) := by
  refine Prun c_slices_EqualFunc_impl_Conf_impl_Conf_impl_Conf_impl_Conf (by simp [r_slices_EqualFunc_impl_Conf_impl_Conf_impl_Conf_impl_Conf]) (by simp) ?_
  unfold k_slices_EqualFunc_impl_Conf_impl_Conf_impl_Conf_impl_Conf r_slices_EqualFunc_impl_Conf_impl_Conf_impl_Conf_impl_Conf
  have hok := PfnOk f hf
  by_cases hl : xs.length = ys.length
  · simp [hl]
    refine awp_loop (fun n σ => ∃ i : Nat, i ≤ xs.length ∧ n = xs.length - i ∧ xs.take i = ys.take i ∧ σ = ⟨[(1, .one (.ar false 0 2 (ys.map sConf))), (2, .one (.fn f [])), (15, .one (.ar false 0 2 (xs.map sConf))), (16, aI xs.length), (17, aI i)], []⟩) (xs.length) ⟨0, by simp [hl]⟩ ?_
    rintro n σ ⟨i, hi, rfl, ht, rfl⟩
    by_cases h : i < xs.length
    · have h2 : i < ys.length := by omega
      simp [h, h2, sConf, hok]
      refine callG_F (hc i i h h2) (by simp) ?_
      by_cases he : xs[i] = ys[i]
      · simp [he]
        refine ⟨xs.length - (i + 1), by omega, i + 1, by omega, rfl, (take_step h h2).2 ⟨ht, he⟩, ?_⟩
        rw [wrapI (by omega) (by omega)]
        simp
      · simp [he]
        intro hh
        subst hh
        exact he rfl
    · simp [h]
      have : i = xs.length := by omega
      rw [this, List.take_length, hl, List.take_length] at ht
      exact ht
  · have : ¬ (xs.length : Int) = ys.length := by omega
    simp [this]
    rintro rfl
    exact hl rfl
end Go.Am
-- EqF_Line
namespace Go.Am
open Go.Proofs
set_option maxHeartbeats 4000000
set_option maxRecDepth 100000
-- 81 slices.EqualFunc[[]loop.example/g00485/impl.Line,[]loop.example/g00485/impl.Line,loop.example/g00485/impl.Line,loop.example/g00485/impl.Line]
def k_slices_EqualFunc_impl_Line_impl_Line_impl_Line_impl_Line : K :=
 .seq (
  .reg none [⟨(some 6), none, .asn (.c (.bool false))⟩]) (
 .seq (
  .seq (
   .reg none [⟨(some 10), none, .mv (.t 0)⟩,
     ⟨(some 11), none, .len (.t 10)⟩,
     ⟨(some 12), none, .mv (.t 1)⟩,
     ⟨(some 13), none, .len (.t 12)⟩,
     ⟨(some 14), none, .bin .neq (.t 11) (.t 13)⟩]) (
  .cond (.t 14) (
   .seq (
    .reg none [⟨(some 6), none, .asn (.c (.bool false))⟩]) (
   .ret)) (
   .skip))) (
 .seq (
  .seq (
   .reg none [⟨(some 15), none, .mv (.t 0)⟩,
     ⟨(some 16), none, .len (.t 15)⟩,
     ⟨(some 17), none, .mv (.c (.int .i64 (0)))⟩]) (
  .block 0 (
   .loop (some ([1, 2, 15, 16, 17], [0, 1, 2, 1000])) (
    .seq (
     .reg none [⟨(some 18), none, .bin .lss (.t 17) (.t 16)⟩]) (
    .seq (
     .cond (.t 18) (
      .skip) (
      .exit 0)) (
    .seq (
     .block 1 (
      .seq (
       .reg none [⟨(some 19), none, .mv (.t 17)⟩,
         ⟨(some 20), none, .iad 3 (.t 15) (.t 17)⟩,
         ⟨(some 21), none, .ld 3 true (.t 20)⟩,
         ⟨(some 8), none, .alc 118 3 [(.ar true 103 2 []), (.int .i64 (0)), (.ar true 103 2 [])]⟩,
         ⟨(some 7), none, .asn (.t 19)⟩,
         ⟨none, none, .st 3 false (.t 8) (.t 21)⟩]) (
      .seq (
       .reg none [⟨(some 22), none, .mv (.t 1)⟩,
         ⟨(some 23), none, .mv (.t 7)⟩,
         ⟨(some 24), none, .iad 3 (.t 22) (.t 23)⟩,
         ⟨(some 25), none, .ld 3 true (.t 24)⟩,
         ⟨(some 9), none, .alc 118 3 [(.ar true 103 2 []), (.int .i64 (0)), (.ar true 103 2 [])]⟩,
         ⟨none, none, .st 3 false (.t 9) (.t 25)⟩]) (
      .seq (
       .reg none [⟨(some 26), none, .mv (.t 2)⟩,
         ⟨(some 27), none, .ld 3 true (.t 8)⟩,
         ⟨(some 28), none, .ld 3 true (.t 9)⟩,
         ⟨(some 29), none, .callv (.t 26) [(.t 27), (.t 28)]⟩,
         ⟨(some 30), none, .not (.t 29)⟩]) (
      .cond (.t 30) (
       .seq (
        .reg none [⟨(some 6), none, .asn (.c (.bool false))⟩]) (
       .ret)) (
       .skip)))))) (
    .reg none [⟨(some 31), none, .bin .add (.t 17) (.c (.int .i64 (1)))⟩,
      ⟨(some 17), none, .mv (.t 31)⟩]))))))) (
 .seq (
  .reg none [⟨(some 6), none, .asn (.c (.bool true))⟩]) (
 .ret))))
def r_slices_EqualFunc_impl_Line_impl_Line_impl_Line_impl_Line : Nat × List RV := (32, [.t 6])

theorem c_slices_EqualFunc_impl_Line_impl_Line_impl_Line_impl_Line : cmpS PT PF PA (Tryz.prog.funcs[81]?) = some (r_slices_EqualFunc_impl_Line_impl_Line_impl_Line_impl_Line.1, r_slices_EqualFunc_impl_Line_impl_Line_impl_Line_impl_Line.2, stripK k_slices_EqualFunc_impl_Line_impl_Line_impl_Line_impl_Line) := by kernel_rfl

theorem h_EqF_Line (f : Nat) (hf : PF.contains f = true) (xs ys : List TLine) (hx : xs.length < 2 ^ 40) (hc : ∀ i j (h : i < xs.length) (h2 : j < ys.length), CallsF Tryz.prog f [.agg (sLine xs[i]), .agg (sLine ys[j])] (aB (decide (xs[i] = ys[j])))) :
    CallsF Tryz.prog 81 [.one (.ar false 0 3 (xs.map sLine)), .one (.ar false 0 3 (ys.map sLine)), .one (.fn f [])] (aB (decide (xs = ys))) := by
  refine Prun c_slices_EqualFunc_impl_Line_impl_Line_impl_Line_impl_Line (by simp [r_slices_EqualFunc_impl_Line_impl_Line_impl_Line_impl_Line]) (by simp) ?_
  unfold k_slices_EqualFunc_impl_Line_impl_Line_impl_Line_impl_Line r_slices_EqualFunc_impl_Line_impl_Line_impl_Line_impl_Line
  have hok := PfnOk f hf
  by_cases hl : xs.length = ys.length
  · simp [hl]
    refine awp_loop (fun n σ => ∃ i : Nat, i ≤ xs.length ∧ n = xs.length - i ∧ xs.take i = ys.take i ∧ σ = ⟨[(1, .one (.ar false 0 3 (ys.map sLine))), (2, .one (.fn f [])), (15, .one (.ar false 0 3 (xs.map sLine))), (16, aI xs.length), (17, aI i)], []⟩) (xs.length) ⟨0, by simp [hl]⟩ ?_
    rintro n σ ⟨i, hi, rfl, ht, rfl⟩
    by_cases h : i < xs.length
    · have h2 : i < ys.length := by omega
      simp [h, h2, sLine, hok]
      refine callG_F (hc i i h h2) (by simp) ?_
      by_cases he : xs[i] = ys[i]
      · simp [he]
        refine ⟨xs.length - (i + 1), by omega, i + 1, by omega, rfl, (take_step h h2).2 ⟨ht, he⟩, ?_⟩
        rw [wrapI (by omega) (by omega)]
        simp
      · simp [he]
        intro hh
        subst hh
        exact he rfl
    · simp [h]
      have : i = xs.length := by omega
      rw [this, List.take_length, hl, List.take_length] at ht
      exact ht
  · have : ¬ (xs.length : Int) = ys.length := by omega
    simp [this]
    rintro rfl
    exact hl rfl
end Go.Am
-- StoreSame
namespace Go.Am
open Go.Proofs
set_option maxHeartbeats 4000000
set_option maxRecDepth 100000
-- 116 loop.example/g00485/impl.sameSet
def k_impl_sameSet : K :=
 .seq (
  .reg none [⟨(some 4), none, .asn (.c (.bool false))⟩]) (
 .seq (
  .reg none [⟨(some 5), none, .mv (.t 0)⟩,
    ⟨(some 6), none, .mv (.t 1)⟩,
    ⟨(some 7), none, .call 145 [(.t 5), (.t 6), (.c (.fn 146 []))]⟩,
    ⟨(some 4), none, .asn (.t 7)⟩]) (
 .ret))
def r_impl_sameSet : Nat × List RV := (8, [.t 4])

theorem c_impl_sameSet : cmpS PT PF PA (Tryz.prog.funcs[116]?) = some (r_impl_sameSet.1, r_impl_sameSet.2, stripK k_impl_sameSet) := by kernel_rfl

theorem h_impl_sameSet (xs ys : List TConf) (hx : wL wConf xs < 2 ^ 40) : CallsF Tryz.prog 116 [.one (.ar false 0 2 (xs.map sConf)), .one (.ar false 0 2 (ys.map sConf))] (aB (decide (xs = ys))) := by
  refine Prun c_impl_sameSet (by simp [r_impl_sameSet]) (by simp) ?_
  unfold k_impl_sameSet r_impl_sameSet
  have hlen := wL_len wConf xs
  simp
  refine callG_F (h_EqF_Conf 146 (by kernel_rfl) xs ys (by omega) fun i j h h2 => h_impl_sameConf _ _ (by have := wL_get wConf xs i h; omega)) (by simp) ?_
  simp
-- 82 loop.example/g00485/impl.sameLine
def k_impl_sameLine : K :=
 .seq (
  .reg none [⟨(some 2), none, .box 118 3 (.t 0)⟩,
    ⟨(some 3), none, .box 118 3 (.t 1)⟩,
    ⟨(some 4), none, .asn (.c (.bool false))⟩]) (
 .seq (
  .reg none [⟨(some 5), none, .fad 1 (.t 2)⟩,
    ⟨(some 6), none, .ld 1 false (.t 5)⟩,
    ⟨(some 7), none, .fad 1 (.t 3)⟩,
    ⟨(some 8), none, .ld 1 false (.t 7)⟩,
    ⟨(some 9), none, .bin .eql (.t 6) (.t 8)⟩,
    ⟨(some 10), none, .mv (.t 9)⟩,
    ⟨(some 11), (some (10, true)), .fad 0 (.t 2)⟩,
    ⟨(some 12), (some (10, true)), .ld 1 false (.t 11)⟩,
    ⟨(some 13), (some (10, true)), .fad 0 (.t 3)⟩,
    ⟨(some 14), (some (10, true)), .ld 1 false (.t 13)⟩,
    ⟨(some 15), (some (10, true)), .call 116 [(.t 12), (.t 14)]⟩,
    ⟨(some 16), none, .pick (.t 10) (.t 15) (.c (.bool false))⟩,
    ⟨(some 17), none, .mv (.t 16)⟩,
    ⟨(some 18), (some (17, true)), .fad 2 (.t 2)⟩,
    ⟨(some 19), (some (17, true)), .ld 1 false (.t 18)⟩,
    ⟨(some 20), (some (17, true)), .fad 2 (.t 3)⟩,
    ⟨(some 21), (some (17, true)), .ld 1 false (.t 20)⟩,
    ⟨(some 22), (some (17, true)), .call 116 [(.t 19), (.t 21)]⟩,
    ⟨(some 23), none, .pick (.t 17) (.t 22) (.c (.bool false))⟩,
    ⟨(some 4), none, .asn (.t 23)⟩]) (
 .ret))
def r_impl_sameLine : Nat × List RV := (24, [.t 4])

theorem c_impl_sameLine : cmpS PT PF PA (Tryz.prog.funcs[82]?) = some (r_impl_sameLine.1, r_impl_sameLine.2, stripK k_impl_sameLine) := by kernel_rfl

theorem h_impl_sameLine (a b : TLine) (ha : wLine a < 2 ^ 40) : CallsF Tryz.prog 82 [.agg (sLine a), .agg (sLine b)] (aB (decide (a = b))) := by
  refine Prun c_impl_sameLine (by simp [r_impl_sameLine]) (by simp) ?_
  unfold k_impl_sameLine r_impl_sameLine
  obtain ⟨a1, a2, a3⟩ := a
  obtain ⟨b1, b2, b3⟩ := b
  simp only [wLine] at ha
  by_cases h1 : a2 = b2
  case neg => simp [sLine, h1]
  simp [sLine, h1]
  refine callG_F (h_impl_sameSet a1 b1 (by omega)) (by simp) ?_
  by_cases h2 : a1 = b1
  case neg => simp [h2]
  simp [h2]
  refine callG_F (h_impl_sameSet a3 b3 (by omega)) (by simp) ?_
  simp
-- 43 loop.example/g00485/impl.StoreSame
def k_impl_StoreSame : K :=
 .seq (
  .reg none [⟨(some 2), none, .box 57 2 (.t 0)⟩,
    ⟨(some 3), none, .box 57 2 (.t 1)⟩,
    ⟨(some 4), none, .asn (.c (.bool false))⟩]) (
 .seq (
  .reg none [⟨(some 5), none, .fad 0 (.t 2)⟩,
    ⟨(some 6), none, .ld 1 false (.t 5)⟩,
    ⟨(some 7), none, .fad 0 (.t 3)⟩,
    ⟨(some 8), none, .ld 1 false (.t 7)⟩,
    ⟨(some 9), none, .bin .eql (.t 6) (.t 8)⟩,
    ⟨(some 10), none, .mv (.t 9)⟩,
    ⟨(some 11), (some (10, true)), .fad 1 (.t 2)⟩,
    ⟨(some 12), (some (10, true)), .ld 1 false (.t 11)⟩,
    ⟨(some 13), (some (10, true)), .fad 1 (.t 3)⟩,
    ⟨(some 14), (some (10, true)), .ld 1 false (.t 13)⟩,
    ⟨(some 15), (some (10, true)), .call 81 [(.t 12), (.t 14), (.c (.fn 82 []))]⟩,
    ⟨(some 16), none, .pick (.t 10) (.t 15) (.c (.bool false))⟩,
    ⟨(some 4), none, .asn (.t 16)⟩]) (
 .ret))
def r_impl_StoreSame : Nat × List RV := (17, [.t 4])

theorem c_impl_StoreSame : cmpS PT PF PA (Tryz.prog.funcs[43]?) = some (r_impl_StoreSame.1, r_impl_StoreSame.2, stripK k_impl_StoreSame) := by kernel_rfl

theorem h_impl_StoreSame (a b : TStore) (ha : wStore a < 2 ^ 40) : CallsF Tryz.prog 43 [.agg (sStore a), .agg (sStore b)] (aB (decide (a = b))) := by
  refine Prun c_impl_StoreSame (by simp [r_impl_StoreSame]) (by simp) ?_
  unfold k_impl_StoreSame r_impl_StoreSame
  obtain ⟨a1, a2⟩ := a
  obtain ⟨b1, b2⟩ := b
  simp only [wStore] at ha
  have hlen := wL_len wLine a2
  by_cases h1 : a1 = b1
  case neg => simp [sStore, h1]
  simp [sStore, h1]
  refine callG_F (h_EqF_Line 82 (by kernel_rfl) a2 b2 (by omega) fun i j h h2 => h_impl_sameLine _ _ (by have := wL_get wLine a2 i h; omega)) (by simp) ?_
  simp
-- 35 loop.example/g00485/spec.StoreSame
def k_spec_StoreSame : K :=
 .seq (
  .reg none [⟨(some 2), none, .box 57 2 (.t 0)⟩,
    ⟨(some 3), none, .box 57 2 (.t 1)⟩,
    ⟨(some 4), none, .asn (.c (.bool false))⟩]) (
 .seq (
  .seq (
   .reg none [⟨(some 6), none, .fad 0 (.t 2)⟩,
     ⟨(some 7), none, .ld 1 false (.t 6)⟩,
     ⟨(some 8), none, .fad 0 (.t 3)⟩,
     ⟨(some 9), none, .ld 1 false (.t 8)⟩,
     ⟨(some 10), none, .bin .neq (.t 7) (.t 9)⟩,
     ⟨(some 11), none, .mv (.t 10)⟩,
     ⟨(some 12), (some (11, false)), .fad 1 (.t 2)⟩,
     ⟨(some 13), (some (11, false)), .ld 1 false (.t 12)⟩,
     ⟨(some 14), (some (11, false)), .len (.t 13)⟩,
     ⟨(some 15), (some (11, false)), .fad 1 (.t 3)⟩,
     ⟨(some 16), (some (11, false)), .ld 1 false (.t 15)⟩,
     ⟨(some 17), (some (11, false)), .len (.t 16)⟩,
     ⟨(some 18), (some (11, false)), .bin .neq (.t 14) (.t 17)⟩,
     ⟨(some 19), none, .pick (.t 11) (.c (.bool true)) (.t 18)⟩]) (
  .cond (.t 19) (
   .seq (
    .reg none [⟨(some 4), none, .asn (.c (.bool false))⟩]) (
   .ret)) (
   .skip))) (
 .seq (
  .seq (
   .reg none [⟨(some 5), none, .asn (.c (.int .i64 (0)))⟩]) (
  .block 0 (
   .loop (some ([2, 3, 5], [2, 3, 5, 1000])) (
    .seq (
     .seq (
      .reg none [⟨(some 20), none, .mv (.t 5)⟩,
        ⟨(some 21), none, .fad 1 (.t 2)⟩,
        ⟨(some 22), none, .ld 1 false (.t 21)⟩,
        ⟨(some 23), none, .len (.t 22)⟩,
        ⟨(some 24), none, .bin .lss (.t 20) (.t 23)⟩]) (
     .cond (.t 24) (
      .skip) (
      .exit 0))) (
    .seq (
     .block 1 (
      .seq (
       .drw none 45 [⟨(some 27), none, .fad 1 (.t 2)⟩,
         ⟨(some 28), none, .ld 1 false (.t 27)⟩,
         ⟨(some 29), none, .mv (.t 5)⟩,
         ⟨(some 30), none, .iad 3 (.t 28) (.t 29)⟩,
         ⟨(some 31), none, .fad 1 (.t 30)⟩,
         ⟨(some 32), none, .ld 1 false (.t 31)⟩,
         ⟨(some 33), none, .fad 1 (.t 3)⟩,
         ⟨(some 34), none, .ld 1 false (.t 33)⟩,
         ⟨(some 35), none, .mv (.t 5)⟩,
         ⟨(some 36), none, .iad 3 (.t 34) (.t 35)⟩,
         ⟨(some 37), none, .fad 1 (.t 36)⟩,
         ⟨(some 38), none, .ld 1 false (.t 37)⟩,
         ⟨(some 39), none, .bin .neq (.t 32) (.t 38)⟩,
         ⟨(some 40), none, .mv (.t 39)⟩,
         ⟨(some 41), (some (40, false)), .fad 1 (.t 2)⟩,
         ⟨(some 42), (some (40, false)), .ld 1 false (.t 41)⟩,
         ⟨(some 43), (some (40, false)), .mv (.t 5)⟩,
         ⟨(some 44), (some (40, false)), .iad 3 (.t 42) (.t 43)⟩,
         ⟨(some 45), (some (40, false)), .fad 0 (.t 44)⟩,
         ⟨(some 46), (some (40, false)), .ld 1 false (.t 45)⟩,
         ⟨(some 47), (some (40, false)), .fad 1 (.t 3)⟩,
         ⟨(some 48), (some (40, false)), .ld 1 false (.t 47)⟩,
         ⟨(some 49), (some (40, false)), .mv (.t 5)⟩,
         ⟨(some 50), (some (40, false)), .iad 3 (.t 48) (.t 49)⟩,
         ⟨(some 51), (some (40, false)), .fad 0 (.t 50)⟩,
         ⟨(some 52), (some (40, false)), .ld 1 false (.t 51)⟩,
         ⟨(some 53), (some (40, false)), .call 73 [(.t 46), (.t 52)]⟩,
         ⟨(some 54), (some (40, false)), .not (.t 53)⟩,
         ⟨(some 55), none, .pick (.t 40) (.c (.bool true)) (.t 54)⟩,
         ⟨(some 56), none, .mv (.t 55)⟩,
         ⟨(some 57), (some (56, false)), .fad 1 (.t 2)⟩,
         ⟨(some 58), (some (56, false)), .ld 1 false (.t 57)⟩,
         ⟨(some 59), (some (56, false)), .mv (.t 5)⟩,
         ⟨(some 60), (some (56, false)), .iad 3 (.t 58) (.t 59)⟩,
         ⟨(some 61), (some (56, false)), .fad 2 (.t 60)⟩,
         ⟨(some 62), (some (56, false)), .ld 1 false (.t 61)⟩,
         ⟨(some 63), (some (56, false)), .fad 1 (.t 3)⟩,
         ⟨(some 64), (some (56, false)), .ld 1 false (.t 63)⟩,
         ⟨(some 65), (some (56, false)), .mv (.t 5)⟩,
         ⟨(some 66), (some (56, false)), .iad 3 (.t 64) (.t 65)⟩,
         ⟨(some 67), (some (56, false)), .fad 2 (.t 66)⟩,
         ⟨(some 68), (some (56, false)), .ld 1 false (.t 67)⟩,
         ⟨(some 69), (some (56, false)), .call 73 [(.t 62), (.t 68)]⟩,
         ⟨(some 70), (some (56, false)), .not (.t 69)⟩,
         ⟨(some 71), none, .pick (.t 56) (.c (.bool true)) (.t 70)⟩]) (
      .cond (.t 71) (
       .seq (
        .reg none [⟨(some 4), none, .asn (.c (.bool false))⟩]) (
       .ret)) (
       .skip)))) (
    .reg none [⟨(some 25), none, .mv (.t 5)⟩,
      ⟨(some 26), none, .bin .add (.t 25) (.c (.int .i64 (1)))⟩,
      ⟨(some 5), none, .asn (.t 26)⟩])))))) (
 .seq (
  .reg none [⟨(some 4), none, .asn (.c (.bool true))⟩]) (
 .ret))))
def r_spec_StoreSame : Nat × List RV := (72, [.t 4])

theorem c_spec_StoreSame : cmpS PT PF PA (Tryz.prog.funcs[35]?) = some (r_spec_StoreSame.1, r_spec_StoreSame.2, stripK k_spec_StoreSame) := by kernel_rfl

theorem h_spec_StoreSame (a b : TStore) (ha : wStore a < 2 ^ 40) : CallsF Tryz.prog 35 [.agg (sStore a), .agg (sStore b)] (aB (decide (a = b))) := by
  refine Prun c_spec_StoreSame (by simp [r_spec_StoreSame]) (by simp) ?_
  unfold k_spec_StoreSame r_spec_StoreSame
  obtain ⟨a1, xs⟩ := a
  obtain ⟨b1, ys⟩ := b
  simp only [wStore] at ha
  have hlen := wL_len wLine xs
  by_cases h1 : a1 = b1
  case neg => simp [sStore, h1]
  by_cases hl : xs.length = ys.length
  case neg =>
    have : ¬ (xs.length : Int) = ys.length := by omega
    simp [sStore, h1, this]
    rintro rfl
    exact hl rfl
  simp [sStore, h1, hl]
  refine awp_loop (fun n σ => ∃ i : Nat, i ≤ xs.length ∧ n = xs.length - i ∧ xs.take i = ys.take i ∧ σ = ⟨[(2, .one (.pt 2 2 [] 0 0)), (3, .one (.pt 2 3 [] 0 0)), (5, aI i)], [(2, ⟨57, 2, [[cI b1, .ar false 0 3 (xs.map sLine)]]⟩), (3, ⟨57, 2, [[cI b1, .ar false 0 3 (ys.map sLine)]]⟩)]⟩) (xs.length) ⟨0, by simp⟩ ?_
  rintro n σ ⟨i, hi, rfl, ht, rfl⟩
  by_cases h : i < xs.length
  · have h2 : i < ys.length := by omega
    have hw := wL_get wLine xs i h
    rcases ea : xs[i] with ⟨x1, x2, x3⟩
    rcases eb : ys[i] with ⟨y1, y2, y3⟩
    have hfin : ∀ (hne : ¬ xs[i] = ys[i]), ¬ xs = ys := fun hne hh => by subst hh; exact hne rfl
    rw [ea, eb] at hfin
    simp only [ea, wLine] at hw
    by_cases e1 : x2 = y2
    case neg =>
      simp [h, h2, sLine, ea, eb, e1]
      exact hfin (by simp [e1])
    simp [h, h2, sLine, ea, eb, e1]
    refine ⟨_, by simp, h_spec_l12Sets x1 y1 (by omega), ?_⟩
    by_cases e2 : x1 = y1
    case neg =>
      simp [e2]
      exact hfin (by simp [e2])
    simp [e2, h, h2, sLine, ea, eb]
    refine ⟨_, by simp, h_spec_l12Sets x3 y3 (by omega), ?_⟩
    by_cases e3 : x3 = y3
    case neg =>
      simp [e3]
      exact hfin (by simp [e3])
    simp [e3]
    refine ⟨xs.length - (i + 1), by omega, i + 1, by omega, rfl, (take_step h h2).2 ⟨ht, by rw [ea, eb, e1, e2, e3]⟩, ?_⟩
    rw [wrapI (by omega) (by omega)]
    simp
  · simp [h]
    have : i = xs.length := by omega
    rw [this, List.take_length, hl, List.take_length] at ht
    exact ht
end Go.Am
-- HouseSame1
namespace Go.Am
open Go.Proofs
set_option maxHeartbeats 4000000
set_option maxRecDepth 100000
-- 78 loop.example/g00485/impl.sameGram$1
def k_impl_sameGram_1 : K :=
 .seq (
  .reg none [⟨(some 4), none, .asn (.c (.bool false))⟩]) (
 .seq (
  .reg none [⟨(some 5), none, .mv (.t 0)⟩,
    ⟨(some 6), none, .mv (.t 1)⟩,
    ⟨(some 7), none, .call 79 [(.t 5), (.t 6), (.c (.fn 80 []))]⟩,
    ⟨(some 4), none, .asn (.t 7)⟩]) (
 .ret))
def r_impl_sameGram_1 : Nat × List RV := (8, [.t 4])

theorem c_impl_sameGram_1 : cmpS PT PF PA (Tryz.prog.funcs[78]?) = some (r_impl_sameGram_1.1, r_impl_sameGram_1.2, stripK k_impl_sameGram_1) := by kernel_rfl

theorem h_sameGram1 (xs ys : List (List Int)) (hx : wL (wL w0) xs < 2 ^ 40) : CallsF Tryz.prog 78 [.one (.ar false 0 1 (xs.map sIS)), .one (.ar false 0 1 (ys.map sIS))] (aB (decide (xs = ys))) := by
  refine Prun c_impl_sameGram_1 (by simp [r_impl_sameGram_1]) (by simp) ?_
  unfold k_impl_sameGram_1 r_impl_sameGram_1
  have hlen := wL_len (wL w0) xs
  simp
  refine callG_F (h_EqF_IS 80 (by kernel_rfl) xs ys (by omega) fun i j h h2 => h_SlE_int _ _ (by have := wL_get (wL w0) xs i h; rw [wL_w0] at this; omega)) (by simp) ?_
  simp
-- 41 loop.example/g00485/impl.sameGram
def k_impl_sameGram : K :=
 .seq (
  .reg none [⟨(some 2), none, .box 42 1 (.t 0)⟩,
    ⟨(some 3), none, .box 42 1 (.t 1)⟩,
    ⟨(some 4), none, .asn (.c (.bool false))⟩]) (
 .seq (
  .reg none [⟨(some 5), none, .fad 0 (.t 2)⟩,
    ⟨(some 6), none, .ld 1 false (.t 5)⟩,
    ⟨(some 7), none, .fad 0 (.t 3)⟩,
    ⟨(some 8), none, .ld 1 false (.t 7)⟩,
    ⟨(some 9), none, .call 77 [(.t 6), (.t 8), (.c (.fn 78 []))]⟩,
    ⟨(some 4), none, .asn (.t 9)⟩]) (
 .ret))
def r_impl_sameGram : Nat × List RV := (10, [.t 4])

theorem c_impl_sameGram : cmpS PT PF PA (Tryz.prog.funcs[41]?) = some (r_impl_sameGram.1, r_impl_sameGram.2, stripK k_impl_sameGram) := by kernel_rfl

theorem h_sameGram (a b : TGram) (ha : wGram a < 2 ^ 40) : CallsF Tryz.prog 41 [.agg (sGram a), .agg (sGram b)] (aB (decide (a = b))) := by
  refine Prun c_impl_sameGram (by simp [r_impl_sameGram]) (by simp) ?_
  unfold k_impl_sameGram r_impl_sameGram
  obtain ⟨xs⟩ := a
  obtain ⟨ys⟩ := b
  simp only [wGram] at ha
  have hlen := wL_len (wL (wL w0)) xs
  simp [sGram]
  refine callG_F (h_EqF_ISS 78 (by kernel_rfl) xs ys (by omega) fun i j h h2 => h_sameGram1 _ _ (by have := wL_get (wL (wL w0)) xs i h; omega)) (by simp) ?_
  simp
-- 150 loop.example/g00485/impl.sameNode
def k_impl_sameNode : K :=
 .seq (
  .reg none [⟨(some 2), none, .box 191 5 (.t 0)⟩,
    ⟨(some 3), none, .box 191 5 (.t 1)⟩,
    ⟨(some 4), none, .asn (.c (.bool false))⟩]) (
 .seq (
  .reg none [⟨(some 5), none, .fad 0 (.t 2)⟩,
    ⟨(some 6), none, .ld 1 false (.t 5)⟩,
    ⟨(some 7), none, .fad 0 (.t 3)⟩,
    ⟨(some 8), none, .ld 1 false (.t 7)⟩,
    ⟨(some 9), none, .bin .eql (.t 6) (.t 8)⟩,
    ⟨(some 10), none, .mv (.t 9)⟩,
    ⟨(some 11), (some (10, true)), .fad 1 (.t 2)⟩,
    ⟨(some 12), (some (10, true)), .ld 1 false (.t 11)⟩,
    ⟨(some 13), (some (10, true)), .fad 1 (.t 3)⟩,
    ⟨(some 14), (some (10, true)), .ld 1 false (.t 13)⟩,
    ⟨(some 15), (some (10, true)), .bin .eql (.t 12) (.t 14)⟩,
    ⟨(some 16), none, .pick (.t 10) (.t 15) (.c (.bool false))⟩,
    ⟨(some 17), none, .mv (.t 16)⟩,
    ⟨(some 18), (some (17, true)), .fad 2 (.t 2)⟩,
    ⟨(some 19), (some (17, true)), .ld 1 false (.t 18)⟩,
    ⟨(some 20), (some (17, true)), .fad 2 (.t 3)⟩,
    ⟨(some 21), (some (17, true)), .ld 1 false (.t 20)⟩,
    ⟨(some 22), (some (17, true)), .bin .eql (.t 19) (.t 21)⟩,
    ⟨(some 23), none, .pick (.t 17) (.t 22) (.c (.bool false))⟩,
    ⟨(some 24), none, .mv (.t 23)⟩,
    ⟨(some 25), (some (24, true)), .fad 3 (.t 2)⟩,
    ⟨(some 26), (some (24, true)), .ld 1 false (.t 25)⟩,
    ⟨(some 27), (some (24, true)), .fad 3 (.t 3)⟩,
    ⟨(some 28), (some (24, true)), .ld 1 false (.t 27)⟩,
    ⟨(some 29), (some (24, true)), .bin .eql (.t 26) (.t 28)⟩,
    ⟨(some 30), none, .pick (.t 24) (.t 29) (.c (.bool false))⟩,
    ⟨(some 31), none, .mv (.t 30)⟩,
    ⟨(some 32), (some (31, true)), .fad 4 (.t 2)⟩,
    ⟨(some 33), (some (31, true)), .ld 1 false (.t 32)⟩,
    ⟨(some 34), (some (31, true)), .fad 4 (.t 3)⟩,
    ⟨(some 35), (some (31, true)), .ld 1 false (.t 34)⟩,
    ⟨(some 36), (some (31, true)), .call 80 [(.t 33), (.t 35)]⟩,
    ⟨(some 37), none, .pick (.t 31) (.t 36) (.c (.bool false))⟩,
    ⟨(some 4), none, .asn (.t 37)⟩]) (
 .ret))
def r_impl_sameNode : Nat × List RV := (38, [.t 4])

theorem c_impl_sameNode : cmpS PT PF PA (Tryz.prog.funcs[150]?) = some (r_impl_sameNode.1, r_impl_sameNode.2, stripK k_impl_sameNode) := by kernel_rfl

theorem h_sameNode (a b : TNode) (ha : wNode a < 2 ^ 40) : CallsF Tryz.prog 150 [.agg (sNode a), .agg (sNode b)] (aB (decide (a = b))) := by
  refine Prun c_impl_sameNode (by simp [r_impl_sameNode]) (by simp) ?_
  unfold k_impl_sameNode r_impl_sameNode
  obtain ⟨a1, a2, a3, a4, a5⟩ := a
  obtain ⟨b1, b2, b3, b4, b5⟩ := b
  simp only [wNode, wL_w0] at ha
  by_cases q1 : a1 = b1
  case neg => simp [sNode, q1]
  by_cases q2 : a2 = b2
  case neg => simp [sNode, q1, q2]
  by_cases q3 : a3 = b3
  case neg => simp [sNode, q1, q2, q3]
  by_cases q4 : a4 = b4
  case neg => simp [sNode, q1, q2, q3, q4]
  simp [sNode, q1, q2, q3, q4]
  refine callG_F (h_SlE_int a5 b5 (by omega)) (by simp) ?_
  simp
-- 117 loop.example/g00485/impl.RunSame
def k_impl_RunSame : K :=
 .seq (
  .reg none [⟨(some 2), none, .box 92 7 (.t 0)⟩,
    ⟨(some 3), none, .box 92 7 (.t 1)⟩,
    ⟨(some 4), none, .asn (.c (.bool false))⟩]) (
 .seq (
  .seq (
   .reg none [⟨(some 5), none, .fad 0 (.t 2)⟩,
     ⟨(some 6), none, .ld 1 false (.t 5)⟩,
     ⟨(some 7), none, .fad 0 (.t 3)⟩,
     ⟨(some 8), none, .ld 1 false (.t 7)⟩,
     ⟨(some 9), none, .bin .neq (.t 6) (.t 8)⟩,
     ⟨(some 10), none, .mv (.t 9)⟩,
     ⟨(some 11), (some (10, false)), .fad 1 (.t 2)⟩,
     ⟨(some 12), (some (10, false)), .ld 1 false (.t 11)⟩,
     ⟨(some 13), (some (10, false)), .fad 1 (.t 3)⟩,
     ⟨(some 14), (some (10, false)), .ld 1 false (.t 13)⟩,
     ⟨(some 15), (some (10, false)), .bin .neq (.t 12) (.t 14)⟩,
     ⟨(some 16), none, .pick (.t 10) (.c (.bool true)) (.t 15)⟩,
     ⟨(some 17), none, .mv (.t 16)⟩,
     ⟨(some 18), (some (17, false)), .fad 2 (.t 2)⟩,
     ⟨(some 19), (some (17, false)), .ld 1 false (.t 18)⟩,
     ⟨(some 20), (some (17, false)), .fad 2 (.t 3)⟩,
     ⟨(some 21), (some (17, false)), .ld 1 false (.t 20)⟩,
     ⟨(some 22), (some (17, false)), .bin .neq (.t 19) (.t 21)⟩,
     ⟨(some 23), none, .pick (.t 17) (.c (.bool true)) (.t 22)⟩,
     ⟨(some 24), none, .mv (.t 23)⟩,
     ⟨(some 25), (some (24, false)), .fad 3 (.t 2)⟩,
     ⟨(some 26), (some (24, false)), .ld 1 false (.t 25)⟩,
     ⟨(some 27), (some (24, false)), .fad 3 (.t 3)⟩,
     ⟨(some 28), (some (24, false)), .ld 1 false (.t 27)⟩,
     ⟨(some 29), (some (24, false)), .bin .neq (.t 26) (.t 28)⟩,
     ⟨(some 30), none, .pick (.t 24) (.c (.bool true)) (.t 29)⟩]) (
  .cond (.t 30) (
   .seq (
    .reg none [⟨(some 4), none, .asn (.c (.bool false))⟩]) (
   .ret)) (
   .skip))) (
 .seq (
  .seq (
   .reg none [⟨(some 31), none, .fad 4 (.t 2)⟩,
     ⟨(some 32), none, .ld 1 false (.t 31)⟩,
     ⟨(some 33), none, .fad 4 (.t 3)⟩,
     ⟨(some 34), none, .ld 1 false (.t 33)⟩,
     ⟨(some 35), none, .call 147 [(.t 32), (.t 34)]⟩,
     ⟨(some 36), none, .not (.t 35)⟩,
     ⟨(some 37), none, .mv (.t 36)⟩,
     ⟨(some 38), (some (37, false)), .fad 6 (.t 2)⟩,
     ⟨(some 39), (some (37, false)), .ld 1 false (.t 38)⟩,
     ⟨(some 40), (some (37, false)), .fad 6 (.t 3)⟩,
     ⟨(some 41), (some (37, false)), .ld 1 false (.t 40)⟩,
     ⟨(some 42), (some (37, false)), .call 148 [(.t 39), (.t 41)]⟩,
     ⟨(some 43), (some (37, false)), .not (.t 42)⟩,
     ⟨(some 44), none, .pick (.t 37) (.c (.bool true)) (.t 43)⟩]) (
  .cond (.t 44) (
   .seq (
    .reg none [⟨(some 4), none, .asn (.c (.bool false))⟩]) (
   .ret)) (
   .skip))) (
 .seq (
  .reg none [⟨(some 45), none, .fad 5 (.t 2)⟩,
    ⟨(some 46), none, .fad 0 (.t 45)⟩,
    ⟨(some 47), none, .ld 1 false (.t 46)⟩,
    ⟨(some 48), none, .fad 5 (.t 3)⟩,
    ⟨(some 49), none, .fad 0 (.t 48)⟩,
    ⟨(some 50), none, .ld 1 false (.t 49)⟩,
    ⟨(some 51), none, .call 149 [(.t 47), (.t 50), (.c (.fn 150 []))]⟩,
    ⟨(some 4), none, .asn (.t 51)⟩]) (
 .ret))))
def r_impl_RunSame : Nat × List RV := (52, [.t 4])

theorem c_impl_RunSame : cmpS PT PF PA (Tryz.prog.funcs[117]?) = some (r_impl_RunSame.1, r_impl_RunSame.2, stripK k_impl_RunSame) := by kernel_rfl

theorem h_impl_RunSame (a b : TRun) (ha : wRun a < 2 ^ 40) : CallsF Tryz.prog 117 [.agg (sRun a), .agg (sRun b)] (aB (decide (a = b))) := by
  refine Prun c_impl_RunSame (by simp [r_impl_RunSame]) (by simp) ?_
  unfold k_impl_RunSame r_impl_RunSame
  obtain ⟨a1, a2, a3, a4, a5, ⟨a6⟩, a7⟩ := a
  obtain ⟨b1, b2, b3, b4, b5, ⟨b6⟩, b7⟩ := b
  simp only [wRun, wTree] at ha
  have hl5 := wL_len wSlot a5
  have hl6 := wL_len wNode a6
  have hl7 := wL_len wErr a7
  by_cases q1 : a1 = b1
  case neg => simp [sRun, sTree, q1]
  by_cases q2 : a2 = b2
  case neg => simp [sRun, sTree, q1, q2]
  by_cases q3 : a3 = b3
  case neg => simp [sRun, sTree, q1, q2, q3]
  by_cases q4 : a4 = b4
  case neg => simp [sRun, sTree, q1, q2, q3, q4]
  simp [sRun, sTree, q1, q2, q3, q4]
  first | refine callG_F (h_SlE_Slot a5 b5 (by omega)) (by simp) ?_ | refine ⟨_, by simp, h_SlE_Slot a5 b5 (by omega), ?_⟩
  by_cases q5 : a5 = b5
  case neg => simp [q5]
  simp [q5]
  first | refine callG_F (h_SlE_Err a7 b7 (by omega)) (by simp) ?_ | refine ⟨_, by simp, h_SlE_Err a7 b7 (by omega), ?_⟩
  by_cases q7 : a7 = b7
  case neg => simp [q7]
  simp [q7]
  refine callG_F (h_EqF_Node 150 (by kernel_rfl) a6 b6 (by omega) fun i j h h2 => h_sameNode _ _ (by have := wL_get wNode a6 i h; omega)) (by simp) ?_
  simp
-- 84 loop.example/g00485/impl.sameJob
def k_impl_sameJob : K :=
 .seq (
  .reg none [⟨(some 2), none, .box 121 10 (.t 0)⟩,
    ⟨(some 3), none, .box 121 10 (.t 1)⟩,
    ⟨(some 4), none, .asn (.c (.bool false))⟩]) (
 .seq (
  .reg none [⟨(some 5), none, .fad 0 (.t 2)⟩,
    ⟨(some 6), none, .ld 1 false (.t 5)⟩,
    ⟨(some 7), none, .fad 0 (.t 3)⟩,
    ⟨(some 8), none, .ld 1 false (.t 7)⟩,
    ⟨(some 9), none, .bin .eql (.t 6) (.t 8)⟩,
    ⟨(some 10), none, .mv (.t 9)⟩,
    ⟨(some 11), (some (10, true)), .fad 1 (.t 2)⟩,
    ⟨(some 12), (some (10, true)), .ld 1 false (.t 11)⟩,
    ⟨(some 13), (some (10, true)), .fad 1 (.t 3)⟩,
    ⟨(some 14), (some (10, true)), .ld 1 false (.t 13)⟩,
    ⟨(some 15), (some (10, true)), .bin .eql (.t 12) (.t 14)⟩,
    ⟨(some 16), none, .pick (.t 10) (.t 15) (.c (.bool false))⟩,
    ⟨(some 17), none, .mv (.t 16)⟩,
    ⟨(some 18), (some (17, true)), .fad 2 (.t 2)⟩,
    ⟨(some 19), (some (17, true)), .ld 1 false (.t 18)⟩,
    ⟨(some 20), (some (17, true)), .fad 2 (.t 3)⟩,
    ⟨(some 21), (some (17, true)), .ld 1 false (.t 20)⟩,
    ⟨(some 22), (some (17, true)), .call 80 [(.t 19), (.t 21)]⟩,
    ⟨(some 23), none, .pick (.t 17) (.t 22) (.c (.bool false))⟩,
    ⟨(some 24), none, .mv (.t 23)⟩,
    ⟨(some 25), (some (24, true)), .fad 3 (.t 2)⟩,
    ⟨(some 26), (some (24, true)), .ld 7 true (.t 25)⟩,
    ⟨(some 27), (some (24, true)), .fad 3 (.t 3)⟩,
    ⟨(some 28), (some (24, true)), .ld 7 true (.t 27)⟩,
    ⟨(some 29), (some (24, true)), .call 117 [(.t 26), (.t 28)]⟩,
    ⟨(some 30), none, .pick (.t 24) (.t 29) (.c (.bool false))⟩,
    ⟨(some 4), none, .asn (.t 30)⟩]) (
 .ret))
def r_impl_sameJob : Nat × List RV := (31, [.t 4])

theorem c_impl_sameJob : cmpS PT PF PA (Tryz.prog.funcs[84]?) = some (r_impl_sameJob.1, r_impl_sameJob.2, stripK k_impl_sameJob) := by kernel_rfl

theorem h_sameJob (a b : TJob) (ha : wJob a < 2 ^ 40) : CallsF Tryz.prog 84 [.agg (sJob a), .agg (sJob b)] (aB (decide (a = b))) := by
  refine Prun c_impl_sameJob (by simp [r_impl_sameJob]) (by simp) ?_
  unfold k_impl_sameJob r_impl_sameJob
  obtain ⟨a1, a2, a3, a4⟩ := a
  obtain ⟨b1, b2, b3, b4⟩ := b
  simp only [wJob, wL_w0] at ha
  have hr := h_impl_RunSame a4 b4 (by omega)
  by_cases q1 : a1 = b1
  case neg => simp [sJob, q1]
  by_cases q2 : a2 = b2
  case neg => simp [sJob, q1, q2]
  simp [sJob, q1, q2]
  first | refine callG_F (h_SlE_int a3 b3 (by omega)) (by simp) ?_ | refine ⟨_, by simp, h_SlE_int a3 b3 (by omega), ?_⟩
  by_cases q3 : a3 = b3
  case neg => simp [q3]
  simp [q3, sRun]
  refine callG_F hr (by simp) ?_
  simp
-- 45 loop.example/g00485/impl.sameTenant
def k_impl_sameTenant : K :=
 .seq (
  .reg none [⟨(some 2), none, .box 75 10 (.t 0)⟩,
    ⟨(some 3), none, .box 75 10 (.t 1)⟩,
    ⟨(some 4), none, .asn (.c (.bool false))⟩]) (
 .seq (
  .seq (
   .reg none [⟨(some 5), none, .fad 0 (.t 2)⟩,
     ⟨(some 6), none, .ld 1 false (.t 5)⟩,
     ⟨(some 7), none, .fad 0 (.t 3)⟩,
     ⟨(some 8), none, .ld 1 false (.t 7)⟩,
     ⟨(some 9), none, .bin .neq (.t 6) (.t 8)⟩,
     ⟨(some 10), none, .mv (.t 9)⟩,
     ⟨(some 11), (some (10, false)), .fad 1 (.t 2)⟩,
     ⟨(some 12), (some (10, false)), .ld 1 false (.t 11)⟩,
     ⟨(some 13), (some (10, false)), .fad 1 (.t 3)⟩,
     ⟨(some 14), (some (10, false)), .ld 1 false (.t 13)⟩,
     ⟨(some 15), (some (10, false)), .bin .neq (.t 12) (.t 14)⟩,
     ⟨(some 16), none, .pick (.t 10) (.c (.bool true)) (.t 15)⟩,
     ⟨(some 17), none, .mv (.t 16)⟩,
     ⟨(some 18), (some (17, false)), .fad 2 (.t 2)⟩,
     ⟨(some 19), (some (17, false)), .ld 1 false (.t 18)⟩,
     ⟨(some 20), (some (17, false)), .fad 2 (.t 3)⟩,
     ⟨(some 21), (some (17, false)), .ld 1 false (.t 20)⟩,
     ⟨(some 22), (some (17, false)), .bin .neq (.t 19) (.t 21)⟩,
     ⟨(some 23), none, .pick (.t 17) (.c (.bool true)) (.t 22)⟩,
     ⟨(some 24), none, .mv (.t 23)⟩,
     ⟨(some 25), (some (24, false)), .fad 3 (.t 2)⟩,
     ⟨(some 26), (some (24, false)), .ld 1 false (.t 25)⟩,
     ⟨(some 27), (some (24, false)), .fad 3 (.t 3)⟩,
     ⟨(some 28), (some (24, false)), .ld 1 false (.t 27)⟩,
     ⟨(some 29), (some (24, false)), .bin .neq (.t 26) (.t 28)⟩,
     ⟨(some 30), none, .pick (.t 24) (.c (.bool true)) (.t 29)⟩]) (
  .cond (.t 30) (
   .seq (
    .reg none [⟨(some 4), none, .asn (.c (.bool false))⟩]) (
   .ret)) (
   .skip))) (
 .seq (
  .seq (
   .reg none [⟨(some 31), none, .fad 4 (.t 2)⟩,
     ⟨(some 32), none, .ld 1 false (.t 31)⟩,
     ⟨(some 33), none, .fad 4 (.t 3)⟩,
     ⟨(some 34), none, .ld 1 false (.t 33)⟩,
     ⟨(some 35), none, .bin .neq (.t 32) (.t 34)⟩,
     ⟨(some 36), none, .mv (.t 35)⟩,
     ⟨(some 37), (some (36, false)), .fad 5 (.t 2)⟩,
     ⟨(some 38), (some (36, false)), .ld 1 false (.t 37)⟩,
     ⟨(some 39), (some (36, false)), .fad 5 (.t 3)⟩,
     ⟨(some 40), (some (36, false)), .ld 1 false (.t 39)⟩,
     ⟨(some 41), (some (36, false)), .bin .neq (.t 38) (.t 40)⟩,
     ⟨(some 42), none, .pick (.t 36) (.c (.bool true)) (.t 41)⟩,
     ⟨(some 43), none, .mv (.t 42)⟩,
     ⟨(some 44), (some (43, false)), .fad 6 (.t 2)⟩,
     ⟨(some 45), (some (43, false)), .ld 1 false (.t 44)⟩,
     ⟨(some 46), (some (43, false)), .fad 6 (.t 3)⟩,
     ⟨(some 47), (some (43, false)), .ld 1 false (.t 46)⟩,
     ⟨(some 48), (some (43, false)), .bin .neq (.t 45) (.t 47)⟩,
     ⟨(some 49), none, .pick (.t 43) (.c (.bool true)) (.t 48)⟩,
     ⟨(some 50), none, .mv (.t 49)⟩,
     ⟨(some 51), (some (50, false)), .fad 7 (.t 2)⟩,
     ⟨(some 52), (some (50, false)), .ld 1 false (.t 51)⟩,
     ⟨(some 53), (some (50, false)), .fad 7 (.t 3)⟩,
     ⟨(some 54), (some (50, false)), .ld 1 false (.t 53)⟩,
     ⟨(some 55), (some (50, false)), .bin .neq (.t 52) (.t 54)⟩,
     ⟨(some 56), none, .pick (.t 50) (.c (.bool true)) (.t 55)⟩]) (
  .cond (.t 56) (
   .seq (
    .reg none [⟨(some 4), none, .asn (.c (.bool false))⟩]) (
   .ret)) (
   .skip))) (
 .seq (
  .reg none [⟨(some 57), none, .fad 8 (.t 2)⟩,
    ⟨(some 58), none, .ld 1 false (.t 57)⟩,
    ⟨(some 59), none, .fad 8 (.t 3)⟩,
    ⟨(some 60), none, .ld 1 false (.t 59)⟩,
    ⟨(some 61), none, .call 83 [(.t 58), (.t 60), (.c (.fn 84 []))]⟩,
    ⟨(some 62), none, .mv (.t 61)⟩,
    ⟨(some 63), (some (62, true)), .fad 9 (.t 2)⟩,
    ⟨(some 64), (some (62, true)), .ld 1 false (.t 63)⟩,
    ⟨(some 65), (some (62, true)), .fad 9 (.t 3)⟩,
    ⟨(some 66), (some (62, true)), .ld 1 false (.t 65)⟩,
    ⟨(some 67), (some (62, true)), .call 85 [(.t 64), (.t 66)]⟩,
    ⟨(some 68), none, .pick (.t 62) (.t 67) (.c (.bool false))⟩,
    ⟨(some 4), none, .asn (.t 68)⟩]) (
 .ret))))
def r_impl_sameTenant : Nat × List RV := (69, [.t 4])

theorem c_impl_sameTenant : cmpS PT PF PA (Tryz.prog.funcs[45]?) = some (r_impl_sameTenant.1, r_impl_sameTenant.2, stripK k_impl_sameTenant) := by kernel_rfl

theorem h_sameTenant (a b : TTenant) (ha : wTenant a < 2 ^ 40) : CallsF Tryz.prog 45 [.agg (sTenant a), .agg (sTenant b)] (aB (decide (a = b))) := by
  refine Prun c_impl_sameTenant (by simp [r_impl_sameTenant]) (by simp) ?_
  unfold k_impl_sameTenant r_impl_sameTenant
  obtain ⟨a0, a1, a2, a3, a4, a5, a6, a7, a8, a9⟩ := a
  obtain ⟨b0, b1, b2, b3, b4, b5, b6, b7, b8, b9⟩ := b
  simp only [wTenant] at ha
  have hl8 := wL_len wJob a8
  have hl9 := wL_len wOutcome a9
  by_cases q0 : a0 = b0
  case neg => simp [sTenant, q0]
  by_cases q1 : a1 = b1
  case neg => simp [sTenant, q0, q1]
  by_cases q2 : a2 = b2
  case neg => simp [sTenant, q0, q1, q2]
  by_cases q3 : a3 = b3
  case neg => simp [sTenant, q0, q1, q2, q3]
  by_cases q4 : a4 = b4
  case neg => simp [sTenant, q0, q1, q2, q3, q4]
  by_cases q5 : a5 = b5
  case neg => simp [sTenant, q0, q1, q2, q3, q4, q5]
  by_cases q6 : a6 = b6
  case neg => simp [sTenant, q0, q1, q2, q3, q4, q5, q6]
  by_cases q7 : a7 = b7
  case neg => simp [sTenant, q0, q1, q2, q3, q4, q5, q6, q7]
  simp [sTenant, q0, q1, q2, q3, q4, q5, q6, q7]
  refine callG_F (h_EqF_Job 84 (by kernel_rfl) a8 b8 (by omega) fun i j h h2 => h_sameJob _ _ (by have := wL_get wJob a8 i h; omega)) (by simp) ?_
  by_cases q8 : a8 = b8
  case neg => simp [q8]
  simp [q8]
  refine callG_F (h_SlE_Outcome a9 b9 (by omega)) (by simp) ?_
  simp
end Go.Am
-- HouseSame2
namespace Go.Am
open Go.Proofs
set_option maxHeartbeats 4000000
set_option maxRecDepth 100000
-- 72 loop.example/g00485/spec.l1Same
def k_spec_l1Same : K :=
 .seq (
  .reg none [⟨(some 4), none, .asn (.c (.bool false))⟩]) (
 .seq (
  .seq (
   .reg none [⟨(some 6), none, .mv (.t 0)⟩,
     ⟨(some 7), none, .len (.t 6)⟩,
     ⟨(some 8), none, .mv (.t 1)⟩,
     ⟨(some 9), none, .len (.t 8)⟩,
     ⟨(some 10), none, .bin .neq (.t 7) (.t 9)⟩]) (
  .cond (.t 10) (
   .seq (
    .reg none [⟨(some 4), none, .asn (.c (.bool false))⟩]) (
   .ret)) (
   .skip))) (
 .seq (
  .seq (
   .reg none [⟨(some 5), none, .asn (.c (.int .i64 (0)))⟩]) (
  .block 0 (
   .loop (some ([0, 1, 5], [0, 1, 5, 1000])) (
    .seq (
     .seq (
      .reg none [⟨(some 11), none, .mv (.t 5)⟩,
        ⟨(some 12), none, .mv (.t 0)⟩,
        ⟨(some 13), none, .len (.t 12)⟩,
        ⟨(some 14), none, .bin .lss (.t 11) (.t 13)⟩]) (
     .cond (.t 14) (
      .skip) (
      .exit 0))) (
    .seq (
     .block 1 (
      .seq (
       .drw none 9 [⟨(some 17), none, .mv (.t 0)⟩,
         ⟨(some 18), none, .mv (.t 5)⟩,
         ⟨(some 19), none, .iad 1 (.t 17) (.t 18)⟩,
         ⟨(some 20), none, .ld 1 false (.t 19)⟩,
         ⟨(some 21), none, .mv (.t 1)⟩,
         ⟨(some 22), none, .mv (.t 5)⟩,
         ⟨(some 23), none, .iad 1 (.t 21) (.t 22)⟩,
         ⟨(some 24), none, .ld 1 false (.t 23)⟩,
         ⟨(some 25), none, .bin .neq (.t 20) (.t 24)⟩]) (
      .cond (.t 25) (
       .seq (
        .reg none [⟨(some 4), none, .asn (.c (.bool false))⟩]) (
       .ret)) (
       .skip)))) (
    .reg none [⟨(some 15), none, .mv (.t 5)⟩,
      ⟨(some 16), none, .bin .add (.t 15) (.c (.int .i64 (1)))⟩,
      ⟨(some 5), none, .asn (.t 16)⟩])))))) (
 .seq (
  .reg none [⟨(some 4), none, .asn (.c (.bool true))⟩]) (
 .ret))))
def r_spec_l1Same : Nat × List RV := (26, [.t 4])

theorem c_spec_l1Same : cmpS PT PF PA (Tryz.prog.funcs[72]?) = some (r_spec_l1Same.1, r_spec_l1Same.2, stripK k_spec_l1Same) := by kernel_rfl

theorem h_l1Same (xs ys : List Int) (hx : xs.length < 2 ^ 40) :
    CallsF Tryz.prog 72 [.one (.ar false 0 1 (xs.map rI)), .one (.ar false 0 1 (ys.map rI))] (aB (decide (xs = ys))) := by
  refine Prun c_spec_l1Same (by simp [r_spec_l1Same]) (by simp) ?_
  unfold k_spec_l1Same r_spec_l1Same
  by_cases hl : xs.length = ys.length
  · simp [hl]
    refine awp_loop (fun n σ => ∃ i : Nat, i ≤ xs.length ∧ n = xs.length - i ∧ xs.take i = ys.take i ∧ σ = ⟨[(0, .one (.ar false 0 1 (xs.map rI))), (1, .one (.ar false 0 1 (ys.map rI))), (5, aI i)], []⟩) (xs.length) ⟨0, by simp [hl]⟩ ?_
    rintro n σ ⟨i, hi, rfl, ht, rfl⟩
    by_cases h : i < xs.length
    · have h2 : i < ys.length := by omega
      by_cases he : xs[i] = ys[i]
      · simp [h, h2, rI, he]
        refine ⟨xs.length - (i + 1), by omega, i + 1, by omega, rfl, (take_step h h2).2 ⟨ht, he⟩, ?_⟩
        rw [wrapI (by omega) (by omega)]
        simp [rI]
      · simp [h, h2, rI, he]
        intro hh
        subst hh
        exact he rfl
    · simp [h]
      have : i = xs.length := by omega
      rw [this, List.take_length, hl, List.take_length] at ht
      exact ht
  · have : ¬ (xs.length : Int) = ys.length := by omega
    simp [this]
    rintro rfl
    exact hl rfl
-- 74 loop.example/g00485/spec.l15Outcomes
def k_spec_l15Outcomes : K :=
 .seq (
  .reg none [⟨(some 4), none, .asn (.c (.bool false))⟩]) (
 .seq (
  .seq (
   .reg none [⟨(some 6), none, .mv (.t 0)⟩,
     ⟨(some 7), none, .len (.t 6)⟩,
     ⟨(some 8), none, .mv (.t 1)⟩,
     ⟨(some 9), none, .len (.t 8)⟩,
     ⟨(some 10), none, .bin .neq (.t 7) (.t 9)⟩]) (
  .cond (.t 10) (
   .seq (
    .reg none [⟨(some 4), none, .asn (.c (.bool false))⟩]) (
   .ret)) (
   .skip))) (
 .seq (
  .seq (
   .reg none [⟨(some 5), none, .asn (.c (.int .i64 (0)))⟩]) (
  .block 0 (
   .loop (some ([0, 1, 5], [0, 1, 5, 1000])) (
    .seq (
     .seq (
      .reg none [⟨(some 11), none, .mv (.t 5)⟩,
        ⟨(some 12), none, .mv (.t 0)⟩,
        ⟨(some 13), none, .len (.t 12)⟩,
        ⟨(some 14), none, .bin .lss (.t 11) (.t 13)⟩]) (
     .cond (.t 14) (
      .skip) (
      .exit 0))) (
    .seq (
     .block 1 (
      .seq (
       .drw none 9 [⟨(some 17), none, .mv (.t 0)⟩,
         ⟨(some 18), none, .mv (.t 5)⟩,
         ⟨(some 19), none, .iad 3 (.t 17) (.t 18)⟩,
         ⟨(some 20), none, .ld 3 true (.t 19)⟩,
         ⟨(some 21), none, .mv (.t 1)⟩,
         ⟨(some 22), none, .mv (.t 5)⟩,
         ⟨(some 23), none, .iad 3 (.t 21) (.t 22)⟩,
         ⟨(some 24), none, .ld 3 true (.t 23)⟩,
         ⟨(some 25), none, .sqe true [false, false, true] (.t 20) (.t 24)⟩]) (
      .cond (.t 25) (
       .seq (
        .reg none [⟨(some 4), none, .asn (.c (.bool false))⟩]) (
       .ret)) (
       .skip)))) (
    .reg none [⟨(some 15), none, .mv (.t 5)⟩,
      ⟨(some 16), none, .bin .add (.t 15) (.c (.int .i64 (1)))⟩,
      ⟨(some 5), none, .asn (.t 16)⟩])))))) (
 .seq (
  .reg none [⟨(some 4), none, .asn (.c (.bool true))⟩]) (
 .ret))))
def r_spec_l15Outcomes : Nat × List RV := (26, [.t 4])

theorem c_spec_l15Outcomes : cmpS PT PF PA (Tryz.prog.funcs[74]?) = some (r_spec_l15Outcomes.1, r_spec_l15Outcomes.2, stripK k_spec_l15Outcomes) := by kernel_rfl

theorem h_l15Outcomes (xs ys : List TOutcome) (hx : xs.length < 2 ^ 40) :
    CallsF Tryz.prog 74 [.one (.ar false 0 3 (xs.map sOutcome)), .one (.ar false 0 3 (ys.map sOutcome))] (aB (decide (xs = ys))) := by
  refine Prun c_spec_l15Outcomes (by simp [r_spec_l15Outcomes]) (by simp) ?_
  unfold k_spec_l15Outcomes r_spec_l15Outcomes
  by_cases hl : xs.length = ys.length
  · simp [hl]
    refine awp_loop (fun n σ => ∃ i : Nat, i ≤ xs.length ∧ n = xs.length - i ∧ xs.take i = ys.take i ∧ σ = ⟨[(0, .one (.ar false 0 3 (xs.map sOutcome))), (1, .one (.ar false 0 3 (ys.map sOutcome))), (5, aI i)], []⟩) (xs.length) ⟨0, by simp [hl]⟩ ?_
    rintro n σ ⟨i, hi, rfl, ht, rfl⟩
    by_cases h : i < xs.length
    · have h2 : i < ys.length := by omega
      rcases ea : xs[i] with ⟨x0, x1, x2⟩
      rcases eb : ys[i] with ⟨y0, y1, y2⟩
      have hfin : xs = ys → (⟨x0, x1, x2⟩ : TOutcome) = ⟨y0, y1, y2⟩ := fun hh => by subst hh; rw [← ea, ← eb]
      by_cases q0 : x0 = y0
      case neg =>
        simp [h, h2, sOutcome, ea, eb, q0]
        intro hh
        have := hfin hh
        simp at this
        simp_all
      by_cases q1 : x1 = y1
      case neg =>
        simp [h, h2, sOutcome, ea, eb, q0, q1]
        intro hh
        have := hfin hh
        simp at this
        simp_all
      by_cases q2 : (x2.toList == y2.toList) = true
      case neg =>
        have q2 : (x2.toList == y2.toList) = false := by simpa using q2
        simp [h, h2, sOutcome, ea, eb, q0, q1, q2]
        intro hh
        have := hfin hh
        simp at this
        simp_all
      have e0 : x0 = y0 := q0
      have e1 : x1 = y1 := q1
      have e2 : x2 = y2 := ByteArray.ext (by have := congrArg List.toArray (eq_of_beq q2); simpa [ByteArray.toList_eq] using this)
      have he : xs[i] = ys[i] := by rw [ea, eb]; simp [e0, e1, e2]
      simp [h, h2, sOutcome, ea, eb, q0, q1, q2]
      refine ⟨xs.length - (i + 1), by omega, i + 1, by omega, rfl, (take_step h h2).2 ⟨ht, he⟩, ?_⟩
      rw [wrapI (by omega) (by omega)]
      simp
    · simp [h]
      have : i = xs.length := by omega
      rw [this, List.take_length, hl, List.take_length] at ht
      exact ht
  · have : ¬ (xs.length : Int) = ys.length := by omega
    simp [this]
    rintro rfl
    exact hl rfl
-- 113 loop.example/g00485/spec.l10Nodes
def k_spec_l10Nodes : K :=
 .seq (
  .reg none [⟨(some 2), none, .box 89 1 (.t 0)⟩,
    ⟨(some 3), none, .box 89 1 (.t 1)⟩,
    ⟨(some 4), none, .asn (.c (.bool false))⟩]) (
 .seq (
  .seq (
   .reg none [⟨(some 8), none, .fad 0 (.t 2)⟩,
     ⟨(some 9), none, .ld 1 false (.t 8)⟩,
     ⟨(some 10), none, .len (.t 9)⟩,
     ⟨(some 11), none, .fad 0 (.t 3)⟩,
     ⟨(some 12), none, .ld 1 false (.t 11)⟩,
     ⟨(some 13), none, .len (.t 12)⟩,
     ⟨(some 14), none, .bin .neq (.t 10) (.t 13)⟩]) (
  .cond (.t 14) (
   .seq (
    .reg none [⟨(some 4), none, .asn (.c (.bool false))⟩]) (
   .ret)) (
   .skip))) (
 .seq (
  .seq (
   .reg none [⟨(some 5), none, .asn (.c (.int .i64 (0)))⟩]) (
  .block 0 (
   .loop (some ([2, 3, 5], [2, 3, 5, 1000])) (
    .seq (
     .seq (
      .reg none [⟨(some 15), none, .mv (.t 5)⟩,
        ⟨(some 16), none, .fad 0 (.t 2)⟩,
        ⟨(some 17), none, .ld 1 false (.t 16)⟩,
        ⟨(some 18), none, .len (.t 17)⟩,
        ⟨(some 19), none, .bin .lss (.t 15) (.t 18)⟩]) (
     .cond (.t 19) (
      .skip) (
      .exit 0))) (
    .seq (
     .block 1 (
      .seq (
       .reg none [⟨(some 22), none, .fad 0 (.t 2)⟩,
         ⟨(some 23), none, .ld 1 false (.t 22)⟩,
         ⟨(some 24), none, .mv (.t 5)⟩,
         ⟨(some 25), none, .iad 5 (.t 23) (.t 24)⟩,
         ⟨(some 26), none, .ld 5 true (.t 25)⟩,
         ⟨(some 6), none, .alc 191 5 [(.int .i64 (0)), (.int .i64 (0)), (.int .i64 (0)), (.int .i64 (0)), (.ar true 3 1 [])]⟩,
         ⟨none, none, .st 5 false (.t 6) (.t 26)⟩]) (
      .seq (
       .reg none [⟨(some 27), none, .fad 0 (.t 3)⟩,
         ⟨(some 28), none, .ld 1 false (.t 27)⟩,
         ⟨(some 29), none, .mv (.t 5)⟩,
         ⟨(some 30), none, .iad 5 (.t 28) (.t 29)⟩,
         ⟨(some 31), none, .ld 5 true (.t 30)⟩,
         ⟨(some 7), none, .alc 191 5 [(.int .i64 (0)), (.int .i64 (0)), (.int .i64 (0)), (.int .i64 (0)), (.ar true 3 1 [])]⟩,
         ⟨none, none, .st 5 false (.t 7) (.t 31)⟩]) (
      .seq (
       .reg none [⟨(some 32), none, .fad 0 (.t 6)⟩,
         ⟨(some 33), none, .ld 1 false (.t 32)⟩,
         ⟨(some 34), none, .fad 0 (.t 7)⟩,
         ⟨(some 35), none, .ld 1 false (.t 34)⟩,
         ⟨(some 36), none, .bin .neq (.t 33) (.t 35)⟩,
         ⟨(some 37), none, .mv (.t 36)⟩,
         ⟨(some 38), (some (37, false)), .fad 1 (.t 6)⟩,
         ⟨(some 39), (some (37, false)), .ld 1 false (.t 38)⟩,
         ⟨(some 40), (some (37, false)), .fad 1 (.t 7)⟩,
         ⟨(some 41), (some (37, false)), .ld 1 false (.t 40)⟩,
         ⟨(some 42), (some (37, false)), .bin .neq (.t 39) (.t 41)⟩,
         ⟨(some 43), none, .pick (.t 37) (.c (.bool true)) (.t 42)⟩,
         ⟨(some 44), none, .mv (.t 43)⟩,
         ⟨(some 45), (some (44, false)), .fad 2 (.t 6)⟩,
         ⟨(some 46), (some (44, false)), .ld 1 false (.t 45)⟩,
         ⟨(some 47), (some (44, false)), .fad 2 (.t 7)⟩,
         ⟨(some 48), (some (44, false)), .ld 1 false (.t 47)⟩,
         ⟨(some 49), (some (44, false)), .bin .neq (.t 46) (.t 48)⟩,
         ⟨(some 50), none, .pick (.t 44) (.c (.bool true)) (.t 49)⟩,
         ⟨(some 51), none, .mv (.t 50)⟩,
         ⟨(some 52), (some (51, false)), .fad 3 (.t 6)⟩,
         ⟨(some 53), (some (51, false)), .ld 1 false (.t 52)⟩,
         ⟨(some 54), (some (51, false)), .fad 3 (.t 7)⟩,
         ⟨(some 55), (some (51, false)), .ld 1 false (.t 54)⟩,
         ⟨(some 56), (some (51, false)), .bin .neq (.t 53) (.t 55)⟩,
         ⟨(some 57), none, .pick (.t 51) (.c (.bool true)) (.t 56)⟩,
         ⟨(some 58), none, .mv (.t 57)⟩,
         ⟨(some 59), (some (58, false)), .fad 4 (.t 6)⟩,
         ⟨(some 60), (some (58, false)), .ld 1 false (.t 59)⟩,
         ⟨(some 61), (some (58, false)), .fad 4 (.t 7)⟩,
         ⟨(some 62), (some (58, false)), .ld 1 false (.t 61)⟩,
         ⟨(some 63), (some (58, false)), .call 72 [(.t 60), (.t 62)]⟩,
         ⟨(some 64), (some (58, false)), .not (.t 63)⟩,
         ⟨(some 65), none, .pick (.t 58) (.c (.bool true)) (.t 64)⟩]) (
      .cond (.t 65) (
       .seq (
        .reg none [⟨(some 4), none, .asn (.c (.bool false))⟩]) (
       .ret)) (
       .skip)))))) (
    .reg none [⟨(some 20), none, .mv (.t 5)⟩,
      ⟨(some 21), none, .bin .add (.t 20) (.c (.int .i64 (1)))⟩,
      ⟨(some 5), none, .asn (.t 21)⟩])))))) (
 .seq (
  .reg none [⟨(some 4), none, .asn (.c (.bool true))⟩]) (
 .ret))))
def r_spec_l10Nodes : Nat × List RV := (66, [.t 4])

theorem c_spec_l10Nodes : cmpS PT PF PA (Tryz.prog.funcs[113]?) = some (r_spec_l10Nodes.1, r_spec_l10Nodes.2, stripK k_spec_l10Nodes) := by kernel_rfl

theorem h_l10Nodes (a b : TTree) (ha : wTree a < 2 ^ 40) : CallsF Tryz.prog 113 [.agg (sTree a), .agg (sTree b)] (aB (decide (a = b))) := by
  refine Prun c_spec_l10Nodes (by simp [r_spec_l10Nodes]) (by simp) ?_
  unfold k_spec_l10Nodes r_spec_l10Nodes
  obtain ⟨xs⟩ := a
  obtain ⟨ys⟩ := b
  simp only [wTree] at ha
  have hlen := wL_len wNode xs
  by_cases hl : xs.length = ys.length
  case neg =>
    have : ¬ (xs.length : Int) = ys.length := by omega
    simp [sTree, this]
    rintro rfl
    exact hl rfl
  simp [sTree, hl]
  refine awp_loop (fun n σ => ∃ i : Nat, i ≤ xs.length ∧ n = xs.length - i ∧ xs.take i = ys.take i ∧ σ = ⟨[(2, .one (.pt 1 2 [] 0 0)), (3, .one (.pt 1 3 [] 0 0)), (5, aI i)], [(2, ⟨89, 1, [[.ar false 0 5 (xs.map sNode)]]⟩), (3, ⟨89, 1, [[.ar false 0 5 (ys.map sNode)]]⟩)]⟩) (xs.length) ⟨0, by simp⟩ ?_
  rintro n σ ⟨i, hi, rfl, ht, rfl⟩
  by_cases h : i < xs.length
  · have h2 : i < ys.length := by omega
    have hw := wL_get wNode xs i h
    rcases ea : xs[i] with ⟨x1, x2, x3, x4, x5⟩
    rcases eb : ys[i] with ⟨y1, y2, y3, y4, y5⟩
    have hfin : ∀ (hne : ¬ xs[i] = ys[i]), ¬ xs = ys := fun hne hh => by subst hh; exact hne rfl
    rw [ea, eb] at hfin
    simp only [ea, wNode, wL_w0] at hw
    by_cases e1 : x1 = y1
    case neg =>
      simp [h, h2, sNode, ea, eb, e1]
      exact hfin (by simp [e1])
    by_cases e2 : x2 = y2
    case neg =>
      simp [h, h2, sNode, ea, eb, e1, e2]
      exact hfin (by simp [e2])
    by_cases e3 : x3 = y3
    case neg =>
      simp [h, h2, sNode, ea, eb, e1, e2, e3]
      exact hfin (by simp [e3])
    by_cases e4 : x4 = y4
    case neg =>
      simp [h, h2, sNode, ea, eb, e1, e2, e3, e4]
      exact hfin (by simp [e4])
    simp [h, h2, sNode, ea, eb, e1, e2, e3, e4]
    first | refine callG_F (h_l1Same x5 y5 (by omega)) (by simp) ?_ | refine ⟨_, by simp, h_l1Same x5 y5 (by omega), ?_⟩
    by_cases e5 : x5 = y5
    case neg =>
      simp [e5]
      exact hfin (by simp [e5])
    simp [e5]
    refine ⟨xs.length - (i + 1), by omega, i + 1, by omega, rfl, (take_step h h2).2 ⟨ht, by rw [ea, eb, e1, e2, e3, e4, e5]⟩, ?_⟩
    rw [wrapI (by omega) (by omega)]
    simp
  · simp [h]
    have : i = xs.length := by omega
    rw [this, List.take_length, hl, List.take_length] at ht
    exact ht
-- 75 loop.example/g00485/spec.RunSame
def k_spec_RunSame : K :=
 .seq (
  .reg none [⟨(some 2), none, .box 92 7 (.t 0)⟩,
    ⟨(some 3), none, .box 92 7 (.t 1)⟩,
    ⟨(some 4), none, .asn (.c (.bool false))⟩]) (
 .seq (
  .seq (
   .reg none [⟨(some 7), none, .fad 0 (.t 2)⟩,
     ⟨(some 8), none, .ld 1 false (.t 7)⟩,
     ⟨(some 9), none, .fad 0 (.t 3)⟩,
     ⟨(some 10), none, .ld 1 false (.t 9)⟩,
     ⟨(some 11), none, .bin .neq (.t 8) (.t 10)⟩,
     ⟨(some 12), none, .mv (.t 11)⟩,
     ⟨(some 13), (some (12, false)), .fad 1 (.t 2)⟩,
     ⟨(some 14), (some (12, false)), .ld 1 false (.t 13)⟩,
     ⟨(some 15), (some (12, false)), .fad 1 (.t 3)⟩,
     ⟨(some 16), (some (12, false)), .ld 1 false (.t 15)⟩,
     ⟨(some 17), (some (12, false)), .bin .neq (.t 14) (.t 16)⟩,
     ⟨(some 18), none, .pick (.t 12) (.c (.bool true)) (.t 17)⟩,
     ⟨(some 19), none, .mv (.t 18)⟩,
     ⟨(some 20), (some (19, false)), .fad 2 (.t 2)⟩,
     ⟨(some 21), (some (19, false)), .ld 1 false (.t 20)⟩,
     ⟨(some 22), (some (19, false)), .fad 2 (.t 3)⟩,
     ⟨(some 23), (some (19, false)), .ld 1 false (.t 22)⟩,
     ⟨(some 24), (some (19, false)), .bin .neq (.t 21) (.t 23)⟩,
     ⟨(some 25), none, .pick (.t 19) (.c (.bool true)) (.t 24)⟩,
     ⟨(some 26), none, .mv (.t 25)⟩,
     ⟨(some 27), (some (26, false)), .fad 3 (.t 2)⟩,
     ⟨(some 28), (some (26, false)), .ld 1 false (.t 27)⟩,
     ⟨(some 29), (some (26, false)), .fad 3 (.t 3)⟩,
     ⟨(some 30), (some (26, false)), .ld 1 false (.t 29)⟩,
     ⟨(some 31), (some (26, false)), .bin .neq (.t 28) (.t 30)⟩,
     ⟨(some 32), none, .pick (.t 26) (.c (.bool true)) (.t 31)⟩,
     ⟨(some 33), none, .mv (.t 32)⟩,
     ⟨(some 34), (some (33, false)), .fad 4 (.t 2)⟩,
     ⟨(some 35), (some (33, false)), .ld 1 false (.t 34)⟩,
     ⟨(some 36), (some (33, false)), .len (.t 35)⟩,
     ⟨(some 37), (some (33, false)), .fad 4 (.t 3)⟩,
     ⟨(some 38), (some (33, false)), .ld 1 false (.t 37)⟩,
     ⟨(some 39), (some (33, false)), .len (.t 38)⟩,
     ⟨(some 40), (some (33, false)), .bin .neq (.t 36) (.t 39)⟩,
     ⟨(some 41), none, .pick (.t 33) (.c (.bool true)) (.t 40)⟩,
     ⟨(some 42), none, .mv (.t 41)⟩,
     ⟨(some 43), (some (42, false)), .fad 6 (.t 2)⟩,
     ⟨(some 44), (some (42, false)), .ld 1 false (.t 43)⟩,
     ⟨(some 45), (some (42, false)), .len (.t 44)⟩,
     ⟨(some 46), (some (42, false)), .fad 6 (.t 3)⟩,
     ⟨(some 47), (some (42, false)), .ld 1 false (.t 46)⟩,
     ⟨(some 48), (some (42, false)), .len (.t 47)⟩,
     ⟨(some 49), (some (42, false)), .bin .neq (.t 45) (.t 48)⟩,
     ⟨(some 50), none, .pick (.t 42) (.c (.bool true)) (.t 49)⟩,
     ⟨(some 51), none, .mv (.t 50)⟩,
     ⟨(some 52), (some (51, false)), .fad 5 (.t 2)⟩,
     ⟨(some 53), (some (51, false)), .ld 1 true (.t 52)⟩,
     ⟨(some 54), (some (51, false)), .fad 5 (.t 3)⟩,
     ⟨(some 55), (some (51, false)), .ld 1 true (.t 54)⟩,
     ⟨(some 56), (some (51, false)), .call 113 [(.t 53), (.t 55)]⟩,
     ⟨(some 57), (some (51, false)), .not (.t 56)⟩,
     ⟨(some 58), none, .pick (.t 51) (.c (.bool true)) (.t 57)⟩]) (
  .cond (.t 58) (
   .seq (
    .reg none [⟨(some 4), none, .asn (.c (.bool false))⟩]) (
   .ret)) (
   .skip))) (
 .seq (
  .seq (
   .reg none [⟨(some 5), none, .asn (.c (.int .i64 (0)))⟩]) (
  .block 0 (
   .loop (some ([2, 3, 5], [2, 3, 5, 1000])) (
    .seq (
     .seq (
      .reg none [⟨(some 59), none, .mv (.t 5)⟩,
        ⟨(some 60), none, .fad 4 (.t 2)⟩,
        ⟨(some 61), none, .ld 1 false (.t 60)⟩,
        ⟨(some 62), none, .len (.t 61)⟩,
        ⟨(some 63), none, .bin .lss (.t 59) (.t 62)⟩]) (
     .cond (.t 63) (
      .skip) (
      .exit 0))) (
    .seq (
     .block 1 (
      .seq (
       .drw none 11 [⟨(some 66), none, .fad 4 (.t 2)⟩,
         ⟨(some 67), none, .ld 1 false (.t 66)⟩,
         ⟨(some 68), none, .mv (.t 5)⟩,
         ⟨(some 69), none, .iad 2 (.t 67) (.t 68)⟩,
         ⟨(some 70), none, .ld 2 true (.t 69)⟩,
         ⟨(some 71), none, .fad 4 (.t 3)⟩,
         ⟨(some 72), none, .ld 1 false (.t 71)⟩,
         ⟨(some 73), none, .mv (.t 5)⟩,
         ⟨(some 74), none, .iad 2 (.t 72) (.t 73)⟩,
         ⟨(some 75), none, .ld 2 true (.t 74)⟩,
         ⟨(some 76), none, .sqe true [false, false] (.t 70) (.t 75)⟩]) (
      .cond (.t 76) (
       .seq (
        .reg none [⟨(some 4), none, .asn (.c (.bool false))⟩]) (
       .ret)) (
       .skip)))) (
    .reg none [⟨(some 64), none, .mv (.t 5)⟩,
      ⟨(some 65), none, .bin .add (.t 64) (.c (.int .i64 (1)))⟩,
      ⟨(some 5), none, .asn (.t 65)⟩])))))) (
 .seq (
  .seq (
   .reg none [⟨(some 6), none, .asn (.c (.int .i64 (0)))⟩]) (
  .block 2 (
   .loop (some ([2, 3, 6], [2, 3, 6, 1000])) (
    .seq (
     .seq (
      .reg none [⟨(some 77), none, .mv (.t 6)⟩,
        ⟨(some 78), none, .fad 6 (.t 2)⟩,
        ⟨(some 79), none, .ld 1 false (.t 78)⟩,
        ⟨(some 80), none, .len (.t 79)⟩,
        ⟨(some 81), none, .bin .lss (.t 77) (.t 80)⟩]) (
     .cond (.t 81) (
      .skip) (
      .exit 2))) (
    .seq (
     .block 3 (
      .seq (
       .drw none 11 [⟨(some 84), none, .fad 6 (.t 2)⟩,
         ⟨(some 85), none, .ld 1 false (.t 84)⟩,
         ⟨(some 86), none, .mv (.t 6)⟩,
         ⟨(some 87), none, .iad 3 (.t 85) (.t 86)⟩,
         ⟨(some 88), none, .ld 3 true (.t 87)⟩,
         ⟨(some 89), none, .fad 6 (.t 3)⟩,
         ⟨(some 90), none, .ld 1 false (.t 89)⟩,
         ⟨(some 91), none, .mv (.t 6)⟩,
         ⟨(some 92), none, .iad 3 (.t 90) (.t 91)⟩,
         ⟨(some 93), none, .ld 3 true (.t 92)⟩,
         ⟨(some 94), none, .sqe true [false, false, false] (.t 88) (.t 93)⟩]) (
      .cond (.t 94) (
       .seq (
        .reg none [⟨(some 4), none, .asn (.c (.bool false))⟩]) (
       .ret)) (
       .skip)))) (
    .reg none [⟨(some 82), none, .mv (.t 6)⟩,
      ⟨(some 83), none, .bin .add (.t 82) (.c (.int .i64 (1)))⟩,
      ⟨(some 6), none, .asn (.t 83)⟩])))))) (
 .seq (
  .reg none [⟨(some 4), none, .asn (.c (.bool true))⟩]) (
 .ret)))))
def r_spec_RunSame : Nat × List RV := (95, [.t 4])

theorem c_spec_RunSame : cmpS PT PF PA (Tryz.prog.funcs[75]?) = some (r_spec_RunSame.1, r_spec_RunSame.2, stripK k_spec_RunSame) := by kernel_rfl

theorem h_spec_RunSame (a b : TRun) (ha : wRun a < 2 ^ 40) : CallsF Tryz.prog 75 [.agg (sRun a), .agg (sRun b)] (aB (decide (a = b))) := by
  refine Prun c_spec_RunSame (by simp [r_spec_RunSame]) (by simp) ?_
  unfold k_spec_RunSame r_spec_RunSame
  obtain ⟨a1, a2, a3, a4, a5, ⟨a6⟩, a7⟩ := a
  obtain ⟨b1, b2, b3, b4, b5, ⟨b6⟩, b7⟩ := b
  simp only [wRun] at ha
  have hn := h_l10Nodes ⟨a6⟩ ⟨b6⟩ (by omega)
  simp only [wTree] at ha
  have hl5 := wL_len wSlot a5
  have hl7 := wL_len wErr a7
  by_cases q1 : a1 = b1
  case neg => simp [sRun, sTree, q1]
  by_cases q2 : a2 = b2
  case neg => simp [sRun, sTree, q1, q2]
  by_cases q3 : a3 = b3
  case neg => simp [sRun, sTree, q1, q2, q3]
  by_cases q4 : a4 = b4
  case neg => simp [sRun, sTree, q1, q2, q3, q4]
  by_cases q5 : a5.length = b5.length
  case neg =>
    have h5 : ¬ (a5.length : Int) = b5.length := by omega
    have h5' : ¬ a5 = b5 := fun hh => q5 (by rw [hh])
    simp [sRun, sTree, q1, q2, q3, q4, h5, h5']
  by_cases q7 : a7.length = b7.length
  case neg =>
    have h7 : ¬ (a7.length : Int) = b7.length := by omega
    have h7' : ¬ a7 = b7 := fun hh => q7 (by rw [hh])
    simp [sRun, sTree, q1, q2, q3, q4, q5, h7, h7']
  simp [sRun, sTree, q1, q2, q3, q4, q5, q7]
  simp only [sTree] at hn
  first | refine callG_F hn (by simp) ?_ | refine ⟨_, by simp, hn, ?_⟩
  by_cases q6 : a6 = b6
  case neg => simp [q6]
  simp [q6]
  refine awp_loop (fun n σ => ∃ i : Nat, i ≤ a5.length ∧ n = a5.length - i ∧ a5.take i = b5.take i ∧ σ = ⟨[(2, .one (.pt 7 2 [] 0 0)), (3, .one (.pt 7 3 [] 0 0)), (5, aI i)], [(2, ⟨92, 7, [[cI b1, cI b2, cI b3, cI b4, .ar false 0 2 (a5.map sSlot), .ar false 0 5 (b6.map sNode), .ar false 0 3 (a7.map sErr)]]⟩), (3, ⟨92, 7, [[cI b1, cI b2, cI b3, cI b4, .ar false 0 2 (b5.map sSlot), .ar false 0 5 (b6.map sNode), .ar false 0 3 (b7.map sErr)]]⟩)]⟩) (a5.length) ⟨0, by simp⟩ ?_
  rintro n σ ⟨i, hi, rfl, ht, rfl⟩
  by_cases h : i < a5.length
  · have h2 : i < b5.length := by omega
    rcases ea : a5[i] with ⟨x0, x1⟩
    rcases eb : b5[i] with ⟨y0, y1⟩
    have hfin : ∀ (hne : ¬ a5[i] = b5[i]), ¬ a5 = b5 := fun hne hh => by subst hh; exact hne rfl
    rw [ea, eb] at hfin
    by_cases e0 : x0 = y0
    case neg =>
      have := hfin (by simp [e0])
      simp [h, h2, sSlot, ea, eb, e0, this]
    by_cases e1 : x1 = y1
    case neg =>
      have := hfin (by simp [e1])
      simp [h, h2, sSlot, ea, eb, e0, e1, this]
    simp [h, h2, sSlot, ea, eb, e0, e1]
    refine ⟨a5.length - (i + 1), by omega, i + 1, by omega, rfl, (take_step h h2).2 ⟨ht, by rw [ea, eb, e0, e1]⟩, ?_⟩
    rw [wrapI (by omega) (by omega)]
    simp
  have hi2 : i = a5.length := by omega
  have h55 : a5 = b5 := by rw [hi2, List.take_length, q5, List.take_length] at ht; exact ht
  clear ht hi
  subst hi2
  simp
  refine awp_loop (fun n σ => ∃ i : Nat, i ≤ a7.length ∧ n = a7.length - i ∧ a7.take i = b7.take i ∧ σ = ⟨[(2, .one (.pt 7 2 [] 0 0)), (3, .one (.pt 7 3 [] 0 0)), (6, aI i)], [(2, ⟨92, 7, [[cI b1, cI b2, cI b3, cI b4, .ar false 0 2 (a5.map sSlot), .ar false 0 5 (b6.map sNode), .ar false 0 3 (a7.map sErr)]]⟩), (3, ⟨92, 7, [[cI b1, cI b2, cI b3, cI b4, .ar false 0 2 (b5.map sSlot), .ar false 0 5 (b6.map sNode), .ar false 0 3 (b7.map sErr)]]⟩)]⟩) (a7.length) ⟨0, by simp⟩ ?_
  rintro n σ ⟨i, hi, rfl, ht, rfl⟩
  by_cases h : i < a7.length
  · have h2 : i < b7.length := by omega
    rcases ea : a7[i] with ⟨x0, x1, x2⟩
    rcases eb : b7[i] with ⟨y0, y1, y2⟩
    have hfin : ∀ (hne : ¬ a7[i] = b7[i]), ¬ a7 = b7 := fun hne hh => by subst hh; exact hne rfl
    rw [ea, eb] at hfin
    by_cases e0 : x0 = y0
    case neg =>
      have := hfin (by simp [e0])
      simp [h, h2, sErr, ea, eb, e0, this]
    by_cases e1 : x1 = y1
    case neg =>
      have := hfin (by simp [e1])
      simp [h, h2, sErr, ea, eb, e0, e1, this]
    by_cases e2 : x2 = y2
    case neg =>
      have := hfin (by simp [e2])
      simp [h, h2, sErr, ea, eb, e0, e1, e2, this]
    simp [h, h2, sErr, ea, eb, e0, e1, e2]
    refine ⟨a7.length - (i + 1), by omega, i + 1, by omega, rfl, (take_step h h2).2 ⟨ht, by rw [ea, eb, e0, e1, e2]⟩, ?_⟩
    rw [wrapI (by omega) (by omega)]
    simp
  have hi2 : i = a7.length := by omega
  have h77 : a7 = b7 := by rw [hi2, List.take_length, q7, List.take_length] at ht; exact ht
  subst hi2
  simp [h55, h77]
end Go.Am
-- HouseSame3
namespace Go.Am
open Go.Proofs
set_option maxHeartbeats 4000000
set_option maxRecDepth 100000
-- 34 loop.example/g00485/spec.l15Gram
def k_spec_l15Gram : K :=
 .seq (
  .reg none [⟨(some 2), none, .box 42 1 (.t 0)⟩,
    ⟨(some 3), none, .box 42 1 (.t 1)⟩,
    ⟨(some 4), none, .asn (.c (.bool false))⟩]) (
 .seq (
  .seq (
   .reg none [⟨(some 7), none, .fad 0 (.t 2)⟩,
     ⟨(some 8), none, .ld 1 false (.t 7)⟩,
     ⟨(some 9), none, .len (.t 8)⟩,
     ⟨(some 10), none, .fad 0 (.t 3)⟩,
     ⟨(some 11), none, .ld 1 false (.t 10)⟩,
     ⟨(some 12), none, .len (.t 11)⟩,
     ⟨(some 13), none, .bin .neq (.t 9) (.t 12)⟩]) (
  .cond (.t 13) (
   .seq (
    .reg none [⟨(some 4), none, .asn (.c (.bool false))⟩]) (
   .ret)) (
   .skip))) (
 .seq (
  .seq (
   .reg none [⟨(some 5), none, .asn (.c (.int .i64 (0)))⟩]) (
  .block 0 (
   .loop (some ([2, 3, 5], [2, 3, 5, 1000])) (
    .seq (
     .seq (
      .reg none [⟨(some 14), none, .mv (.t 5)⟩,
        ⟨(some 15), none, .fad 0 (.t 2)⟩,
        ⟨(some 16), none, .ld 1 false (.t 15)⟩,
        ⟨(some 17), none, .len (.t 16)⟩,
        ⟨(some 18), none, .bin .lss (.t 14) (.t 17)⟩]) (
     .cond (.t 18) (
      .skip) (
      .exit 0))) (
    .seq (
     .block 1 (
      .seq (
       .seq (
        .drw none 13 [⟨(some 21), none, .fad 0 (.t 2)⟩,
          ⟨(some 22), none, .ld 1 false (.t 21)⟩,
          ⟨(some 23), none, .mv (.t 5)⟩,
          ⟨(some 24), none, .iad 1 (.t 22) (.t 23)⟩,
          ⟨(some 25), none, .ld 1 false (.t 24)⟩,
          ⟨(some 26), none, .len (.t 25)⟩,
          ⟨(some 27), none, .fad 0 (.t 3)⟩,
          ⟨(some 28), none, .ld 1 false (.t 27)⟩,
          ⟨(some 29), none, .mv (.t 5)⟩,
          ⟨(some 30), none, .iad 1 (.t 28) (.t 29)⟩,
          ⟨(some 31), none, .ld 1 false (.t 30)⟩,
          ⟨(some 32), none, .len (.t 31)⟩,
          ⟨(some 33), none, .bin .neq (.t 26) (.t 32)⟩]) (
       .cond (.t 33) (
        .seq (
         .reg none [⟨(some 4), none, .asn (.c (.bool false))⟩]) (
        .ret)) (
        .skip))) (
      .seq (
       .reg none [⟨(some 6), none, .asn (.c (.int .i64 (0)))⟩]) (
      .block 2 (
       .loop (some ([2, 3, 5, 6], [2, 3, 5, 6, 1000])) (
        .seq (
         .seq (
          .reg none [⟨(some 34), none, .mv (.t 6)⟩,
            ⟨(some 35), none, .fad 0 (.t 2)⟩,
            ⟨(some 36), none, .ld 1 false (.t 35)⟩,
            ⟨(some 37), none, .mv (.t 5)⟩,
            ⟨(some 38), none, .iad 1 (.t 36) (.t 37)⟩,
            ⟨(some 39), none, .ld 1 false (.t 38)⟩,
            ⟨(some 40), none, .len (.t 39)⟩,
            ⟨(some 41), none, .bin .lss (.t 34) (.t 40)⟩]) (
         .cond (.t 41) (
          .skip) (
          .exit 2))) (
        .seq (
         .block 3 (
          .seq (
           .drw none 18 [⟨(some 44), none, .fad 0 (.t 2)⟩,
             ⟨(some 45), none, .ld 1 false (.t 44)⟩,
             ⟨(some 46), none, .mv (.t 5)⟩,
             ⟨(some 47), none, .iad 1 (.t 45) (.t 46)⟩,
             ⟨(some 48), none, .ld 1 false (.t 47)⟩,
             ⟨(some 49), none, .mv (.t 6)⟩,
             ⟨(some 50), none, .iad 1 (.t 48) (.t 49)⟩,
             ⟨(some 51), none, .ld 1 false (.t 50)⟩,
             ⟨(some 52), none, .fad 0 (.t 3)⟩,
             ⟨(some 53), none, .ld 1 false (.t 52)⟩,
             ⟨(some 54), none, .mv (.t 5)⟩,
             ⟨(some 55), none, .iad 1 (.t 53) (.t 54)⟩,
             ⟨(some 56), none, .ld 1 false (.t 55)⟩,
             ⟨(some 57), none, .mv (.t 6)⟩,
             ⟨(some 58), none, .iad 1 (.t 56) (.t 57)⟩,
             ⟨(some 59), none, .ld 1 false (.t 58)⟩,
             ⟨(some 60), none, .call 72 [(.t 51), (.t 59)]⟩,
             ⟨(some 61), none, .not (.t 60)⟩]) (
          .cond (.t 61) (
           .seq (
            .reg none [⟨(some 4), none, .asn (.c (.bool false))⟩]) (
           .ret)) (
           .skip)))) (
        .reg none [⟨(some 42), none, .mv (.t 6)⟩,
          ⟨(some 43), none, .bin .add (.t 42) (.c (.int .i64 (1)))⟩,
          ⟨(some 6), none, .asn (.t 43)⟩])))))))) (
    .reg none [⟨(some 19), none, .mv (.t 5)⟩,
      ⟨(some 20), none, .bin .add (.t 19) (.c (.int .i64 (1)))⟩,
      ⟨(some 5), none, .asn (.t 20)⟩])))))) (
 .seq (
  .reg none [⟨(some 4), none, .asn (.c (.bool true))⟩]) (
 .ret))))
def r_spec_l15Gram : Nat × List RV := (62, [.t 4])

theorem c_spec_l15Gram : cmpS PT PF PA (Tryz.prog.funcs[34]?) = some (r_spec_l15Gram.1, r_spec_l15Gram.2, stripK k_spec_l15Gram) := by kernel_rfl

theorem h_l15Gram (a b : TGram) (ha : wGram a < 2 ^ 40) : CallsF Tryz.prog 34 [.agg (sGram a), .agg (sGram b)] (aB (decide (a = b))) := by
  refine Prun c_spec_l15Gram (by simp [r_spec_l15Gram]) (by simp) ?_
  unfold k_spec_l15Gram r_spec_l15Gram
  obtain ⟨xs⟩ := a
  obtain ⟨ys⟩ := b
  simp only [wGram] at ha
  have hlen := wL_len (wL (wL w0)) xs
  by_cases hl : xs.length = ys.length
  case neg =>
    have : ¬ (xs.length : Int) = ys.length := by omega
    simp [sGram, this]
    rintro rfl
    exact hl rfl
  simp [sGram, hl]
  refine awp_loop (fun n σ => ∃ i : Nat, i ≤ xs.length ∧ n = xs.length - i ∧ xs.take i = ys.take i ∧ σ = ⟨[(2, .one (.pt 1 2 [] 0 0)), (3, .one (.pt 1 3 [] 0 0)), (5, aI i)], [(2, ⟨42, 1, [[.ar false 0 1 (xs.map sISS)]]⟩), (3, ⟨42, 1, [[.ar false 0 1 (ys.map sISS)]]⟩)]⟩) (xs.length) ⟨0, by simp⟩ ?_
  rintro n σ ⟨i, hi, rfl, ht, rfl⟩
  by_cases h : i < xs.length
  · have h2 : i < ys.length := by omega
    have hw := wL_get (wL (wL w0)) xs i h
    have w1 : IntKind.i64.wrap ((i : Int) + 1) = i + 1 := wrapI (by omega) (by omega)
    have hfin : ∀ (hne : ¬ xs[i] = ys[i]), ¬ xs = ys := fun hne hh => by subst hh; exact hne rfl
    generalize ea : xs[i] = us at *
    generalize eb : ys[i] = vs at *
    have hlu := wL_len (wL w0) us
    by_cases hl2 : us.length = vs.length
    case neg =>
      have h5 : ¬ (us.length : Int) = vs.length := by omega
      have := hfin (fun hh => hl2 (by rw [hh]))
      simp [h, h2, sISS, ea, eb, h5, this]
    simp [h, h2, sISS, ea, eb, hl2]
    refine awp_loop (fun n σ => ∃ j : Nat, j ≤ us.length ∧ n = us.length - j ∧ us.take j = vs.take j ∧ σ = ⟨[(2, .one (.pt 1 2 [] 0 0)), (3, .one (.pt 1 3 [] 0 0)), (5, aI i), (6, aI j)], [(2, ⟨42, 1, [[.ar false 0 1 (xs.map sISS)]]⟩), (3, ⟨42, 1, [[.ar false 0 1 (ys.map sISS)]]⟩)]⟩) (us.length) ⟨0, by simp [sISS]⟩ ?_
    rintro n σ ⟨j, hj, rfl, hu, rfl⟩
    by_cases h3 : j < us.length
    · have h4 : j < vs.length := by omega
      have hw2 := wL_get (wL w0) us j h3
      rw [wL_w0] at hw2
      have w2 : IntKind.i64.wrap ((j : Int) + 1) = j + 1 := wrapI (by omega) (by omega)
      simp [h, h2, sISS, sIS, ea, eb, h3, h4]
      first | refine callG_F (h_l1Same us[j] vs[j] (by omega)) (by simp) ?_ | refine ⟨_, by simp, h_l1Same us[j] vs[j] (by omega), ?_⟩
      by_cases e : us[j] = vs[j]
      case neg =>
        have := hfin (fun hh => e (by subst hh; rfl))
        simp [e, this]
      simp [e]
      refine ⟨us.length - (j + 1), by omega, j + 1, by omega, rfl, (take_step h3 h4).2 ⟨hu, e⟩, ?_⟩
      simp [w2, sISS, sIS]
    · have hj2 : j = us.length := by omega
      have huv : us = vs := by rw [hj2, List.take_length, hl2, List.take_length] at hu; exact hu
      simp [h, h2, sISS, ea, eb, h3]
      refine ⟨xs.length - (i + 1), by omega, i + 1, by omega, rfl, (take_step h h2).2 ⟨ht, by rw [ea, eb, huv]⟩, ?_⟩
      simp [w1, sISS]
  · simp [h]
    have : i = xs.length := by omega
    rw [this, List.take_length, hl, List.take_length] at ht
    exact ht
end Go.Am
-- HouseSame4
namespace Go.Am
open Go.Proofs
set_option maxHeartbeats 4000000
set_option maxRecDepth 100000
def kA : K → K
  | .seq a _ => a
  | k => k
def kB : K → K
  | .seq _ (.seq b _) => b
  | k => k
def kC : K → K
  | .seq _ (.seq _ c) => c
  | k => k
-- 36 loop.example/g00485/spec.l15Tenant
def k_spec_l15Tenant : K :=
 .seq (
  .reg none [⟨(some 2), none, .box 75 10 (.t 0)⟩,
    ⟨(some 3), none, .box 75 10 (.t 1)⟩,
    ⟨(some 4), none, .asn (.c (.bool false))⟩]) (
 .seq (
  .seq (
   .reg none [⟨(some 8), none, .fad 0 (.t 2)⟩,
     ⟨(some 9), none, .ld 1 false (.t 8)⟩,
     ⟨(some 10), none, .fad 0 (.t 3)⟩,
     ⟨(some 11), none, .ld 1 false (.t 10)⟩,
     ⟨(some 12), none, .bin .neq (.t 9) (.t 11)⟩,
     ⟨(some 13), none, .mv (.t 12)⟩,
     ⟨(some 14), (some (13, false)), .fad 1 (.t 2)⟩,
     ⟨(some 15), (some (13, false)), .ld 1 false (.t 14)⟩,
     ⟨(some 16), (some (13, false)), .fad 1 (.t 3)⟩,
     ⟨(some 17), (some (13, false)), .ld 1 false (.t 16)⟩,
     ⟨(some 18), (some (13, false)), .bin .neq (.t 15) (.t 17)⟩,
     ⟨(some 19), none, .pick (.t 13) (.c (.bool true)) (.t 18)⟩,
     ⟨(some 20), none, .mv (.t 19)⟩,
     ⟨(some 21), (some (20, false)), .fad 2 (.t 2)⟩,
     ⟨(some 22), (some (20, false)), .ld 1 false (.t 21)⟩,
     ⟨(some 23), (some (20, false)), .fad 2 (.t 3)⟩,
     ⟨(some 24), (some (20, false)), .ld 1 false (.t 23)⟩,
     ⟨(some 25), (some (20, false)), .bin .neq (.t 22) (.t 24)⟩,
     ⟨(some 26), none, .pick (.t 20) (.c (.bool true)) (.t 25)⟩,
     ⟨(some 27), none, .mv (.t 26)⟩,
     ⟨(some 28), (some (27, false)), .fad 3 (.t 2)⟩,
     ⟨(some 29), (some (27, false)), .ld 1 false (.t 28)⟩,
     ⟨(some 30), (some (27, false)), .fad 3 (.t 3)⟩,
     ⟨(some 31), (some (27, false)), .ld 1 false (.t 30)⟩,
     ⟨(some 32), (some (27, false)), .bin .neq (.t 29) (.t 31)⟩,
     ⟨(some 33), none, .pick (.t 27) (.c (.bool true)) (.t 32)⟩,
     ⟨(some 34), none, .mv (.t 33)⟩,
     ⟨(some 35), (some (34, false)), .fad 4 (.t 2)⟩,
     ⟨(some 36), (some (34, false)), .ld 1 false (.t 35)⟩,
     ⟨(some 37), (some (34, false)), .fad 4 (.t 3)⟩,
     ⟨(some 38), (some (34, false)), .ld 1 false (.t 37)⟩,
     ⟨(some 39), (some (34, false)), .bin .neq (.t 36) (.t 38)⟩,
     ⟨(some 40), none, .pick (.t 34) (.c (.bool true)) (.t 39)⟩,
     ⟨(some 41), none, .mv (.t 40)⟩,
     ⟨(some 42), (some (41, false)), .fad 5 (.t 2)⟩,
     ⟨(some 43), (some (41, false)), .ld 1 false (.t 42)⟩,
     ⟨(some 44), (some (41, false)), .fad 5 (.t 3)⟩,
     ⟨(some 45), (some (41, false)), .ld 1 false (.t 44)⟩,
     ⟨(some 46), (some (41, false)), .bin .neq (.t 43) (.t 45)⟩,
     ⟨(some 47), none, .pick (.t 41) (.c (.bool true)) (.t 46)⟩,
     ⟨(some 48), none, .mv (.t 47)⟩,
     ⟨(some 49), (some (48, false)), .fad 6 (.t 2)⟩,
     ⟨(some 50), (some (48, false)), .ld 1 false (.t 49)⟩,
     ⟨(some 51), (some (48, false)), .fad 6 (.t 3)⟩,
     ⟨(some 52), (some (48, false)), .ld 1 false (.t 51)⟩,
     ⟨(some 53), (some (48, false)), .bin .neq (.t 50) (.t 52)⟩,
     ⟨(some 54), none, .pick (.t 48) (.c (.bool true)) (.t 53)⟩,
     ⟨(some 55), none, .mv (.t 54)⟩,
     ⟨(some 56), (some (55, false)), .fad 7 (.t 2)⟩,
     ⟨(some 57), (some (55, false)), .ld 1 false (.t 56)⟩,
     ⟨(some 58), (some (55, false)), .fad 7 (.t 3)⟩,
     ⟨(some 59), (some (55, false)), .ld 1 false (.t 58)⟩,
     ⟨(some 60), (some (55, false)), .bin .neq (.t 57) (.t 59)⟩,
     ⟨(some 61), none, .pick (.t 55) (.c (.bool true)) (.t 60)⟩,
     ⟨(some 62), none, .mv (.t 61)⟩,
     ⟨(some 63), (some (62, false)), .fad 8 (.t 2)⟩,
     ⟨(some 64), (some (62, false)), .ld 1 false (.t 63)⟩,
     ⟨(some 65), (some (62, false)), .len (.t 64)⟩,
     ⟨(some 66), (some (62, false)), .fad 8 (.t 3)⟩,
     ⟨(some 67), (some (62, false)), .ld 1 false (.t 66)⟩,
     ⟨(some 68), (some (62, false)), .len (.t 67)⟩,
     ⟨(some 69), (some (62, false)), .bin .neq (.t 65) (.t 68)⟩,
     ⟨(some 70), none, .pick (.t 62) (.c (.bool true)) (.t 69)⟩,
     ⟨(some 71), none, .mv (.t 70)⟩,
     ⟨(some 72), (some (71, false)), .fad 9 (.t 2)⟩,
     ⟨(some 73), (some (71, false)), .ld 1 false (.t 72)⟩,
     ⟨(some 74), (some (71, false)), .fad 9 (.t 3)⟩,
     ⟨(some 75), (some (71, false)), .ld 1 false (.t 74)⟩,
     ⟨(some 76), (some (71, false)), .call 74 [(.t 73), (.t 75)]⟩,
     ⟨(some 77), (some (71, false)), .not (.t 76)⟩,
     ⟨(some 78), none, .pick (.t 71) (.c (.bool true)) (.t 77)⟩]) (
  .cond (.t 78) (
   .seq (
    .reg none [⟨(some 4), none, .asn (.c (.bool false))⟩]) (
   .ret)) (
   .skip))) (
 .seq (
  .seq (
   .reg none [⟨(some 5), none, .asn (.c (.int .i64 (0)))⟩]) (
  .block 0 (
   .loop (some ([2, 3, 5], [2, 3, 5, 1000])) (
    .seq (
     .seq (
      .reg none [⟨(some 79), none, .mv (.t 5)⟩,
        ⟨(some 80), none, .fad 8 (.t 2)⟩,
        ⟨(some 81), none, .ld 1 false (.t 80)⟩,
        ⟨(some 82), none, .len (.t 81)⟩,
        ⟨(some 83), none, .bin .lss (.t 79) (.t 82)⟩]) (
     .cond (.t 83) (
      .skip) (
      .exit 0))) (
    .seq (
     .block 1 (
      .seq (
       .reg none [⟨(some 86), none, .fad 8 (.t 2)⟩,
         ⟨(some 87), none, .ld 1 false (.t 86)⟩,
         ⟨(some 88), none, .mv (.t 5)⟩,
         ⟨(some 89), none, .iad 10 (.t 87) (.t 88)⟩,
         ⟨(some 90), none, .ld 10 true (.t 89)⟩,
         ⟨(some 6), none, .alc 121 10 [(.int .i64 (0)), (.int .i64 (0)), (.ar true 3 1 []), (.int .i64 (0)), (.int .i64 (0)), (.int .i64 (0)), (.int .i64 (0)), (.ar true 155 2 []), (.ar true 191 5 []), (.ar true 157 3 [])]⟩,
         ⟨none, none, .st 10 false (.t 6) (.t 90)⟩]) (
      .seq (
       .reg none [⟨(some 91), none, .fad 8 (.t 3)⟩,
         ⟨(some 92), none, .ld 1 false (.t 91)⟩,
         ⟨(some 93), none, .mv (.t 5)⟩,
         ⟨(some 94), none, .iad 10 (.t 92) (.t 93)⟩,
         ⟨(some 95), none, .ld 10 true (.t 94)⟩,
         ⟨(some 7), none, .alc 121 10 [(.int .i64 (0)), (.int .i64 (0)), (.ar true 3 1 []), (.int .i64 (0)), (.int .i64 (0)), (.int .i64 (0)), (.int .i64 (0)), (.ar true 155 2 []), (.ar true 191 5 []), (.ar true 157 3 [])]⟩,
         ⟨none, none, .st 10 false (.t 7) (.t 95)⟩]) (
      .seq (
       .reg none [⟨(some 96), none, .fad 0 (.t 6)⟩,
         ⟨(some 97), none, .ld 1 false (.t 96)⟩,
         ⟨(some 98), none, .fad 0 (.t 7)⟩,
         ⟨(some 99), none, .ld 1 false (.t 98)⟩,
         ⟨(some 100), none, .bin .neq (.t 97) (.t 99)⟩,
         ⟨(some 101), none, .mv (.t 100)⟩,
         ⟨(some 102), (some (101, false)), .fad 1 (.t 6)⟩,
         ⟨(some 103), (some (101, false)), .ld 1 false (.t 102)⟩,
         ⟨(some 104), (some (101, false)), .fad 1 (.t 7)⟩,
         ⟨(some 105), (some (101, false)), .ld 1 false (.t 104)⟩,
         ⟨(some 106), (some (101, false)), .bin .neq (.t 103) (.t 105)⟩,
         ⟨(some 107), none, .pick (.t 101) (.c (.bool true)) (.t 106)⟩,
         ⟨(some 108), none, .mv (.t 107)⟩,
         ⟨(some 109), (some (108, false)), .fad 2 (.t 6)⟩,
         ⟨(some 110), (some (108, false)), .ld 1 false (.t 109)⟩,
         ⟨(some 111), (some (108, false)), .fad 2 (.t 7)⟩,
         ⟨(some 112), (some (108, false)), .ld 1 false (.t 111)⟩,
         ⟨(some 113), (some (108, false)), .call 72 [(.t 110), (.t 112)]⟩,
         ⟨(some 114), (some (108, false)), .not (.t 113)⟩,
         ⟨(some 115), none, .pick (.t 108) (.c (.bool true)) (.t 114)⟩,
         ⟨(some 116), none, .mv (.t 115)⟩,
         ⟨(some 117), (some (116, false)), .fad 3 (.t 6)⟩,
         ⟨(some 118), (some (116, false)), .ld 7 true (.t 117)⟩,
         ⟨(some 119), (some (116, false)), .fad 3 (.t 7)⟩,
         ⟨(some 120), (some (116, false)), .ld 7 true (.t 119)⟩,
         ⟨(some 121), (some (116, false)), .call 75 [(.t 118), (.t 120)]⟩,
         ⟨(some 122), (some (116, false)), .not (.t 121)⟩,
         ⟨(some 123), none, .pick (.t 116) (.c (.bool true)) (.t 122)⟩]) (
      .cond (.t 123) (
       .seq (
        .reg none [⟨(some 4), none, .asn (.c (.bool false))⟩]) (
       .ret)) (
       .skip)))))) (
    .reg none [⟨(some 84), none, .mv (.t 5)⟩,
      ⟨(some 85), none, .bin .add (.t 84) (.c (.int .i64 (1)))⟩,
      ⟨(some 5), none, .asn (.t 85)⟩])))))) (
 .seq (
  .reg none [⟨(some 4), none, .asn (.c (.bool true))⟩]) (
 .ret))))
def r_spec_l15Tenant : Nat × List RV := (124, [.t 4])

theorem c_spec_l15Tenant : cmpS PT PF PA (Tryz.prog.funcs[36]?) = some (r_spec_l15Tenant.1, r_spec_l15Tenant.2, stripK k_spec_l15Tenant) := by kernel_rfl

def goalT (a b : TTenant) (T : K) : Prop :=
  awp Tryz.prog (.seq (kA k_spec_l15Tenant) (.seq (kB k_spec_l15Tenant) T)) (FPost' r_spec_l15Tenant.2 fun x H => H = [] ∧ x = aB (decide (a = b))) (entry [.agg (sTenant a), .agg (sTenant b)] [])
theorem t15_0 (a0 a1 a2 a3 a4 a5 a6 a7 b0 b1 b2 b3 b4 b5 b6 b7 : Int) (xs ys : List TJob) (a9 b9 : List TOutcome) (T : K)  (q0 : ¬ a0 = b0) : goalT ⟨a0, a1, a2, a3, a4, a5, a6, a7, xs, a9⟩ ⟨b0, b1, b2, b3, b4, b5, b6, b7, ys, b9⟩ T := by
  unfold goalT
  simp only [kA, kB, k_spec_l15Tenant]
  unfold r_spec_l15Tenant
  simp [sTenant, q0]
theorem t15_1 (a0 a1 a2 a3 a4 a5 a6 a7 b0 b1 b2 b3 b4 b5 b6 b7 : Int) (xs ys : List TJob) (a9 b9 : List TOutcome) (T : K) (q0 : a0 = b0) (q1 : ¬ a1 = b1) : goalT ⟨a0, a1, a2, a3, a4, a5, a6, a7, xs, a9⟩ ⟨b0, b1, b2, b3, b4, b5, b6, b7, ys, b9⟩ T := by
  unfold goalT
  simp only [kA, kB, k_spec_l15Tenant]
  unfold r_spec_l15Tenant
  simp [sTenant, q0, q1]
theorem t15_2 (a0 a1 a2 a3 a4 a5 a6 a7 b0 b1 b2 b3 b4 b5 b6 b7 : Int) (xs ys : List TJob) (a9 b9 : List TOutcome) (T : K) (q0 : a0 = b0) (q1 : a1 = b1) (q2 : ¬ a2 = b2) : goalT ⟨a0, a1, a2, a3, a4, a5, a6, a7, xs, a9⟩ ⟨b0, b1, b2, b3, b4, b5, b6, b7, ys, b9⟩ T := by
  unfold goalT
  simp only [kA, kB, k_spec_l15Tenant]
  unfold r_spec_l15Tenant
  simp [sTenant, q0, q1, q2]
theorem t15_3 (a0 a1 a2 a3 a4 a5 a6 a7 b0 b1 b2 b3 b4 b5 b6 b7 : Int) (xs ys : List TJob) (a9 b9 : List TOutcome) (T : K) (q0 : a0 = b0) (q1 : a1 = b1) (q2 : a2 = b2) (q3 : ¬ a3 = b3) : goalT ⟨a0, a1, a2, a3, a4, a5, a6, a7, xs, a9⟩ ⟨b0, b1, b2, b3, b4, b5, b6, b7, ys, b9⟩ T := by
  unfold goalT
  simp only [kA, kB, k_spec_l15Tenant]
  unfold r_spec_l15Tenant
  simp [sTenant, q0, q1, q2, q3]
theorem t15_4 (a0 a1 a2 a3 a4 a5 a6 a7 b0 b1 b2 b3 b4 b5 b6 b7 : Int) (xs ys : List TJob) (a9 b9 : List TOutcome) (T : K) (q0 : a0 = b0) (q1 : a1 = b1) (q2 : a2 = b2) (q3 : a3 = b3) (q4 : ¬ a4 = b4) : goalT ⟨a0, a1, a2, a3, a4, a5, a6, a7, xs, a9⟩ ⟨b0, b1, b2, b3, b4, b5, b6, b7, ys, b9⟩ T := by
  unfold goalT
  simp only [kA, kB, k_spec_l15Tenant]
  unfold r_spec_l15Tenant
  simp [sTenant, q0, q1, q2, q3, q4]
theorem t15_5 (a0 a1 a2 a3 a4 a5 a6 a7 b0 b1 b2 b3 b4 b5 b6 b7 : Int) (xs ys : List TJob) (a9 b9 : List TOutcome) (T : K) (q0 : a0 = b0) (q1 : a1 = b1) (q2 : a2 = b2) (q3 : a3 = b3) (q4 : a4 = b4) (q5 : ¬ a5 = b5) : goalT ⟨a0, a1, a2, a3, a4, a5, a6, a7, xs, a9⟩ ⟨b0, b1, b2, b3, b4, b5, b6, b7, ys, b9⟩ T := by
  unfold goalT
  simp only [kA, kB, k_spec_l15Tenant]
  unfold r_spec_l15Tenant
  simp [sTenant, q0, q1, q2, q3, q4, q5]
theorem t15_6 (a0 a1 a2 a3 a4 a5 a6 a7 b0 b1 b2 b3 b4 b5 b6 b7 : Int) (xs ys : List TJob) (a9 b9 : List TOutcome) (T : K) (q0 : a0 = b0) (q1 : a1 = b1) (q2 : a2 = b2) (q3 : a3 = b3) (q4 : a4 = b4) (q5 : a5 = b5) (q6 : ¬ a6 = b6) : goalT ⟨a0, a1, a2, a3, a4, a5, a6, a7, xs, a9⟩ ⟨b0, b1, b2, b3, b4, b5, b6, b7, ys, b9⟩ T := by
  unfold goalT
  simp only [kA, kB, k_spec_l15Tenant]
  unfold r_spec_l15Tenant
  simp [sTenant, q0, q1, q2, q3, q4, q5, q6]
theorem t15_7 (a0 a1 a2 a3 a4 a5 a6 a7 b0 b1 b2 b3 b4 b5 b6 b7 : Int) (xs ys : List TJob) (a9 b9 : List TOutcome) (T : K) (q0 : a0 = b0) (q1 : a1 = b1) (q2 : a2 = b2) (q3 : a3 = b3) (q4 : a4 = b4) (q5 : a5 = b5) (q6 : a6 = b6) (q7 : ¬ a7 = b7) : goalT ⟨a0, a1, a2, a3, a4, a5, a6, a7, xs, a9⟩ ⟨b0, b1, b2, b3, b4, b5, b6, b7, ys, b9⟩ T := by
  unfold goalT
  simp only [kA, kB, k_spec_l15Tenant]
  unfold r_spec_l15Tenant
  simp [sTenant, q0, q1, q2, q3, q4, q5, q6, q7]
theorem t15_8 (a0 a1 a2 a3 a4 a5 a6 a7 b0 b1 b2 b3 b4 b5 b6 b7 : Int) (xs ys : List TJob) (a9 b9 : List TOutcome) (T : K) (q0 : a0 = b0) (q1 : a1 = b1) (q2 : a2 = b2) (q3 : a3 = b3) (q4 : a4 = b4) (q5 : a5 = b5) (q6 : a6 = b6) (q7 : a7 = b7) (q8 : ¬ xs.length = ys.length) : goalT ⟨a0, a1, a2, a3, a4, a5, a6, a7, xs, a9⟩ ⟨b0, b1, b2, b3, b4, b5, b6, b7, ys, b9⟩ T := by
  unfold goalT
  simp only [kA, kB, k_spec_l15Tenant]
  unfold r_spec_l15Tenant
  have h8 : ¬ (xs.length : Int) = ys.length := by omega
  have h8' : ¬ xs = ys := fun hh => q8 (by rw [hh])
  simp [sTenant, q0, q1, q2, q3, q4, q5, q6, q7, h8, h8']
theorem h_l15Tenant (a b : TTenant) (ha : wTenant a < 2 ^ 40) : CallsF Tryz.prog 36 [.agg (sTenant a), .agg (sTenant b)] (aB (decide (a = b))) := by
  refine Prun c_spec_l15Tenant (by simp [r_spec_l15Tenant]) (by simp) ?_
  show goalT _ _ (kC k_spec_l15Tenant)
  obtain ⟨a0, a1, a2, a3, a4, a5, a6, a7, xs, a9⟩ := a
  obtain ⟨b0, b1, b2, b3, b4, b5, b6, b7, ys, b9⟩ := b
  simp only [wTenant] at ha
  have hl8 := wL_len wJob xs
  have hl9 := wL_len wOutcome a9
  by_cases q0 : a0 = b0
  case neg => exact t15_0 _ _ _ _ _ _ _ _ _ _ _ _ _ _ _ _ _ _ _ _ _ q0
  by_cases q1 : a1 = b1
  case neg => exact t15_1 _ _ _ _ _ _ _ _ _ _ _ _ _ _ _ _ _ _ _ _ _ q0 q1
  by_cases q2 : a2 = b2
  case neg => exact t15_2 _ _ _ _ _ _ _ _ _ _ _ _ _ _ _ _ _ _ _ _ _ q0 q1 q2
  by_cases q3 : a3 = b3
  case neg => exact t15_3 _ _ _ _ _ _ _ _ _ _ _ _ _ _ _ _ _ _ _ _ _ q0 q1 q2 q3
  by_cases q4 : a4 = b4
  case neg => exact t15_4 _ _ _ _ _ _ _ _ _ _ _ _ _ _ _ _ _ _ _ _ _ q0 q1 q2 q3 q4
  by_cases q5 : a5 = b5
  case neg => exact t15_5 _ _ _ _ _ _ _ _ _ _ _ _ _ _ _ _ _ _ _ _ _ q0 q1 q2 q3 q4 q5
  by_cases q6 : a6 = b6
  case neg => exact t15_6 _ _ _ _ _ _ _ _ _ _ _ _ _ _ _ _ _ _ _ _ _ q0 q1 q2 q3 q4 q5 q6
  by_cases q7 : a7 = b7
  case neg => exact t15_7 _ _ _ _ _ _ _ _ _ _ _ _ _ _ _ _ _ _ _ _ _ q0 q1 q2 q3 q4 q5 q6 q7
  by_cases q8 : xs.length = ys.length
  case neg => exact t15_8 _ _ _ _ _ _ _ _ _ _ _ _ _ _ _ _ _ _ _ _ _ q0 q1 q2 q3 q4 q5 q6 q7 q8
  generalize hT : kC k_spec_l15Tenant = T
  unfold goalT
  simp only [kA, kB, k_spec_l15Tenant]
  unfold r_spec_l15Tenant
  simp [sTenant, q0, q1, q2, q3, q4, q5, q6, q7, q8]
  have ho := h_l15Outcomes a9 b9 (by omega)
  first | refine callG_F ho (by simp) ?_ | refine ⟨_, by simp, ho, ?_⟩
  by_cases q9 : a9 = b9
  case neg => simp [q9]
  simp [q9]
  rw [← hT]
  simp only [kC, k_spec_l15Tenant]
  simp
  refine awp_loop (fun n σ => ∃ i : Nat, i ≤ xs.length ∧ n = xs.length - i ∧ xs.take i = ys.take i ∧ σ = ⟨[(2, .one (.pt 10 2 [] 0 0)), (3, .one (.pt 10 3 [] 0 0)), (5, aI i)], [(2, ⟨75, 10, [[cI b0, cI b1, cI b2, cI b3, cI b4, cI b5, cI b6, cI b7, .ar false 0 10 (xs.map sJob), .ar false 0 3 (b9.map sOutcome)]]⟩), (3, ⟨75, 10, [[cI b0, cI b1, cI b2, cI b3, cI b4, cI b5, cI b6, cI b7, .ar false 0 10 (ys.map sJob), .ar false 0 3 (b9.map sOutcome)]]⟩)]⟩) (xs.length) ⟨0, by simp⟩ ?_
  rintro n σ ⟨i, hi, rfl, ht, rfl⟩
  by_cases h : i < xs.length
  · have h2 : i < ys.length := by omega
    have hw := wL_get wJob xs i h
    have w1 : IntKind.i64.wrap ((i : Int) + 1) = i + 1 := wrapI (by omega) (by omega)
    rcases ea : xs[i] with ⟨x1, x2, x3, x4⟩
    rcases eb : ys[i] with ⟨y1, y2, y3, y4⟩
    have hfin : ∀ (hne : ¬ xs[i] = ys[i]), ¬ xs = ys := fun hne hh => by subst hh; exact hne rfl
    rw [ea, eb] at hfin
    simp only [ea, wJob, wL_w0] at hw
    have hr := h_spec_RunSame x4 y4 (by omega)
    simp only [sRun] at hr
    by_cases e1 : x1 = y1
    case neg =>
      have := hfin (by simp [e1])
      simp [h, h2, sJob, sRun, ea, eb, e1, this]
    by_cases e2 : x2 = y2
    case neg =>
      have := hfin (by simp [e2])
      simp [h, h2, sJob, sRun, ea, eb, e1, e2, this]
    simp [h, h2, sJob, sRun, ea, eb, e1, e2]
    first | refine callG_F (h_l1Same x3 y3 (by omega)) (by simp) ?_ | refine ⟨_, by simp, h_l1Same x3 y3 (by omega), ?_⟩
    by_cases e3 : x3 = y3
    case neg =>
      have := hfin (by simp [e3])
      simp [e3, this]
    simp [e3]
    first | refine callG_F hr (by simp) ?_ | refine ⟨_, by simp, hr, ?_⟩
    by_cases e4 : x4 = y4
    case neg =>
      have := hfin (by simp [e4])
      simp [e4, this]
    simp [e4]
    refine ⟨xs.length - (i + 1), by omega, i + 1, by omega, rfl, (take_step h h2).2 ⟨ht, by rw [ea, eb, e1, e2, e3, e4]⟩, ?_⟩
    simp [w1]
  · simp [h]
    have : i = xs.length := by omega
    rw [this, List.take_length, q8, List.take_length] at ht
    exact ht
end Go.Am
-- House_y
namespace Go.Am
open Go.Proofs
set_option maxHeartbeats 4000000
set_option maxRecDepth 100000
structure THouse where
  age : Int
  cap : Int
  grams : List TGram
  stores : List TStore
  tenants : List TTenant
  deriving DecidableEq, Inhabited
def rHouse (a : THouse) : List C := [cI a.age, cI a.cap, .ar true 42 1 (a.grams.map rGram), .ar true 57 2 (a.stores.map rStore), .ar true 75 10 (a.tenants.map rTenant)]
def sHouse (a : THouse) : List C := [cI a.age, cI a.cap, .ar false 0 1 (a.grams.map sGram), .ar false 0 2 (a.stores.map sStore), .ar false 0 10 (a.tenants.map sTenant)]
def zHouse : List C := [cI 0, cI 0, .ar true 42 1 [], .ar true 57 2 [], .ar true 75 10 []]
@[simp] theorem rHouse_len (a : THouse) : (rHouse a).length = 5 := rfl
@[simp] theorem sHouse_len (a : THouse) : (sHouse a).length = 5 := rfl
@[simp] theorem shr_rHouse (a : THouse) : shrRow (rHouse a) = sHouse a := by simp [rHouse, sHouse]
@[simp] theorem shr_sHouse (a : THouse) : shrRow (sHouse a) = sHouse a := by simp [sHouse]
@[simp] theorem shrs_rHouse (xs : List THouse) : shrRows (xs.map rHouse) = xs.map sHouse := shrRows_of shr_rHouse xs
@[simp] theorem shrs_sHouse (xs : List THouse) : shrRows (xs.map sHouse) = xs.map sHouse := shrRows_of shr_sHouse xs
@[simp] theorem noSh_rHouse (xs : List THouse) : noShRows (xs.map rHouse) = true := noSh_of (fun a => by simp [rHouse]) xs
def wHouse (a : THouse) : Nat := wL wGram a.grams + wL wStore a.stores + wL wTenant a.tenants
def lHouse (a : THouse) : Prop := lL lGram a.grams ∧ lL lStore a.stores ∧ lL lTenant a.tenants
def mHouse : Mk THouse := ⟨fun a k => ⟨k, k + 1, mGram.mkL a.grams (k + 1 + 1), mStore.mkL a.stores (k + 1 + 1 + mGram.nL a.grams), mTenant.mkL a.tenants (k + 1 + 1 + mGram.nL a.grams + mStore.nL a.stores)⟩, fun a => 1 + 1 + mGram.nL a.grams + mStore.nL a.stores + mTenant.nL a.tenants⟩
@[simp] theorem mHouse_wr (a : THouse) (k : Int) : mHouse.wr a k = ⟨k, k + 1, mGram.mkL a.grams (k + 1 + 1), mStore.mkL a.stores (k + 1 + 1 + mGram.nL a.grams), mTenant.mkL a.tenants (k + 1 + 1 + mGram.nL a.grams + mStore.nL a.stores)⟩ := rfl
@[simp] theorem mHouse_n (a : THouse) : mHouse.n a = 1 + 1 + mGram.nL a.grams + mStore.nL a.stores + mTenant.nL a.tenants := rfl
end Go.Am
-- HouseSame
namespace Go.Am
open Go.Proofs
set_option maxHeartbeats 4000000
set_option maxRecDepth 100000
-- 9 loop.example/g00485/impl.HouseSame
def k_impl_HouseSame : K :=
 .seq (
  .reg none [⟨(some 2), none, .box 33 5 (.t 0)⟩,
    ⟨(some 3), none, .box 33 5 (.t 1)⟩,
    ⟨(some 4), none, .asn (.c (.bool false))⟩]) (
 .seq (
  .seq (
   .reg none [⟨(some 5), none, .fad 0 (.t 2)⟩,
     ⟨(some 6), none, .ld 1 false (.t 5)⟩,
     ⟨(some 7), none, .fad 0 (.t 3)⟩,
     ⟨(some 8), none, .ld 1 false (.t 7)⟩,
     ⟨(some 9), none, .bin .neq (.t 6) (.t 8)⟩,
     ⟨(some 10), none, .mv (.t 9)⟩,
     ⟨(some 11), (some (10, false)), .fad 1 (.t 2)⟩,
     ⟨(some 12), (some (10, false)), .ld 1 false (.t 11)⟩,
     ⟨(some 13), (some (10, false)), .fad 1 (.t 3)⟩,
     ⟨(some 14), (some (10, false)), .ld 1 false (.t 13)⟩,
     ⟨(some 15), (some (10, false)), .bin .neq (.t 12) (.t 14)⟩,
     ⟨(some 16), none, .pick (.t 10) (.c (.bool true)) (.t 15)⟩,
     ⟨(some 17), none, .mv (.t 16)⟩,
     ⟨(some 18), (some (17, false)), .fad 2 (.t 2)⟩,
     ⟨(some 19), (some (17, false)), .ld 1 false (.t 18)⟩,
     ⟨(some 20), (some (17, false)), .fad 2 (.t 3)⟩,
     ⟨(some 21), (some (17, false)), .ld 1 false (.t 20)⟩,
     ⟨(some 22), (some (17, false)), .call 40 [(.t 19), (.t 21), (.c (.fn 41 []))]⟩,
     ⟨(some 23), (some (17, false)), .not (.t 22)⟩,
     ⟨(some 24), none, .pick (.t 17) (.c (.bool true)) (.t 23)⟩]) (
  .cond (.t 24) (
   .seq (
    .reg none [⟨(some 4), none, .asn (.c (.bool false))⟩]) (
   .ret)) (
   .skip))) (
 .seq (
  .reg none [⟨(some 25), none, .fad 3 (.t 2)⟩,
    ⟨(some 26), none, .ld 1 false (.t 25)⟩,
    ⟨(some 27), none, .fad 3 (.t 3)⟩,
    ⟨(some 28), none, .ld 1 false (.t 27)⟩,
    ⟨(some 29), none, .call 42 [(.t 26), (.t 28), (.c (.fn 43 []))]⟩,
    ⟨(some 30), none, .mv (.t 29)⟩,
    ⟨(some 31), (some (30, true)), .fad 4 (.t 2)⟩,
    ⟨(some 32), (some (30, true)), .ld 1 false (.t 31)⟩,
    ⟨(some 33), (some (30, true)), .fad 4 (.t 3)⟩,
    ⟨(some 34), (some (30, true)), .ld 1 false (.t 33)⟩,
    ⟨(some 35), (some (30, true)), .call 44 [(.t 32), (.t 34), (.c (.fn 45 []))]⟩,
    ⟨(some 36), none, .pick (.t 30) (.t 35) (.c (.bool false))⟩,
    ⟨(some 4), none, .asn (.t 36)⟩]) (
 .ret)))
def r_impl_HouseSame : Nat × List RV := (37, [.t 4])

theorem c_impl_HouseSame : cmpS PT PF PA (Tryz.prog.funcs[9]?) = some (r_impl_HouseSame.1, r_impl_HouseSame.2, stripK k_impl_HouseSame) := by kernel_rfl

theorem h_impl_HouseSame (a b : THouse) (ha : wHouse a < 2 ^ 40) : CallsF Tryz.prog 9 [.agg (sHouse a), .agg (sHouse b)] (aB (decide (a = b))) := by
  refine Prun c_impl_HouseSame (by simp [r_impl_HouseSame]) (by simp) ?_
  unfold k_impl_HouseSame r_impl_HouseSame
  obtain ⟨a0, a1, a2, a3, a4⟩ := a
  obtain ⟨b0, b1, b2, b3, b4⟩ := b
  simp only [wHouse] at ha
  have hl2 := wL_len wGram a2
  have hl3 := wL_len wStore a3
  have hl4 := wL_len wTenant a4
  have c2 := h_EqF_Gram 41 (by kernel_rfl) a2 b2 (by omega) fun i j h h2 => h_sameGram _ _ (by have := wL_get wGram a2 i h; omega)
  have c3 := h_EqF_Store 43 (by kernel_rfl) a3 b3 (by omega) fun i j h h2 => h_impl_StoreSame _ _ (by have := wL_get wStore a3 i h; omega)
  have c4 := h_EqF_Tenant 45 (by kernel_rfl) a4 b4 (by omega) fun i j h h2 => h_sameTenant _ _ (by have := wL_get wTenant a4 i h; omega)
  by_cases q0 : a0 = b0
  case neg => simp [sHouse, q0]
  by_cases q1 : a1 = b1
  case neg => simp [sHouse, q0, q1]
  simp [sHouse, q0, q1]
  first | refine callG_F c2 (by simp) ?_ | refine ⟨_, by simp, c2, ?_⟩
  by_cases q2 : a2 = b2
  case neg => simp [q2]
  simp [q2]
  first | refine callG_F c3 (by simp) ?_ | refine ⟨_, by simp, c3, ?_⟩
  by_cases q3 : a3 = b3
  case neg => simp [q3]
  simp [q3]
  first | refine callG_F c4 (by simp) ?_ | refine ⟨_, by simp, c4, ?_⟩
  simp
-- 7 loop.example/g00485/spec.HouseSame
def k_spec_HouseSame : K :=
 .seq (
  .reg none [⟨(some 2), none, .box 33 5 (.t 0)⟩,
    ⟨(some 3), none, .box 33 5 (.t 1)⟩,
    ⟨(some 4), none, .asn (.c (.bool false))⟩]) (
 .seq (
  .seq (
   .reg none [⟨(some 8), none, .fad 0 (.t 2)⟩,
     ⟨(some 9), none, .ld 1 false (.t 8)⟩,
     ⟨(some 10), none, .fad 0 (.t 3)⟩,
     ⟨(some 11), none, .ld 1 false (.t 10)⟩,
     ⟨(some 12), none, .bin .neq (.t 9) (.t 11)⟩,
     ⟨(some 13), none, .mv (.t 12)⟩,
     ⟨(some 14), (some (13, false)), .fad 1 (.t 2)⟩,
     ⟨(some 15), (some (13, false)), .ld 1 false (.t 14)⟩,
     ⟨(some 16), (some (13, false)), .fad 1 (.t 3)⟩,
     ⟨(some 17), (some (13, false)), .ld 1 false (.t 16)⟩,
     ⟨(some 18), (some (13, false)), .bin .neq (.t 15) (.t 17)⟩,
     ⟨(some 19), none, .pick (.t 13) (.c (.bool true)) (.t 18)⟩,
     ⟨(some 20), none, .mv (.t 19)⟩,
     ⟨(some 21), (some (20, false)), .fad 2 (.t 2)⟩,
     ⟨(some 22), (some (20, false)), .ld 1 false (.t 21)⟩,
     ⟨(some 23), (some (20, false)), .len (.t 22)⟩,
     ⟨(some 24), (some (20, false)), .fad 2 (.t 3)⟩,
     ⟨(some 25), (some (20, false)), .ld 1 false (.t 24)⟩,
     ⟨(some 26), (some (20, false)), .len (.t 25)⟩,
     ⟨(some 27), (some (20, false)), .bin .neq (.t 23) (.t 26)⟩,
     ⟨(some 28), none, .pick (.t 20) (.c (.bool true)) (.t 27)⟩,
     ⟨(some 29), none, .mv (.t 28)⟩,
     ⟨(some 30), (some (29, false)), .fad 3 (.t 2)⟩,
     ⟨(some 31), (some (29, false)), .ld 1 false (.t 30)⟩,
     ⟨(some 32), (some (29, false)), .len (.t 31)⟩,
     ⟨(some 33), (some (29, false)), .fad 3 (.t 3)⟩,
     ⟨(some 34), (some (29, false)), .ld 1 false (.t 33)⟩,
     ⟨(some 35), (some (29, false)), .len (.t 34)⟩,
     ⟨(some 36), (some (29, false)), .bin .neq (.t 32) (.t 35)⟩,
     ⟨(some 37), none, .pick (.t 29) (.c (.bool true)) (.t 36)⟩,
     ⟨(some 38), none, .mv (.t 37)⟩,
     ⟨(some 39), (some (38, false)), .fad 4 (.t 2)⟩,
     ⟨(some 40), (some (38, false)), .ld 1 false (.t 39)⟩,
     ⟨(some 41), (some (38, false)), .len (.t 40)⟩,
     ⟨(some 42), (some (38, false)), .fad 4 (.t 3)⟩,
     ⟨(some 43), (some (38, false)), .ld 1 false (.t 42)⟩,
     ⟨(some 44), (some (38, false)), .len (.t 43)⟩,
     ⟨(some 45), (some (38, false)), .bin .neq (.t 41) (.t 44)⟩,
     ⟨(some 46), none, .pick (.t 38) (.c (.bool true)) (.t 45)⟩]) (
  .cond (.t 46) (
   .seq (
    .reg none [⟨(some 4), none, .asn (.c (.bool false))⟩]) (
   .ret)) (
   .skip))) (
 .seq (
  .seq (
   .reg none [⟨(some 5), none, .asn (.c (.int .i64 (0)))⟩]) (
  .block 0 (
   .loop (some ([2, 3, 5], [2, 3, 5, 1000])) (
    .seq (
     .seq (
      .reg none [⟨(some 47), none, .mv (.t 5)⟩,
        ⟨(some 48), none, .fad 2 (.t 2)⟩,
        ⟨(some 49), none, .ld 1 false (.t 48)⟩,
        ⟨(some 50), none, .len (.t 49)⟩,
        ⟨(some 51), none, .bin .lss (.t 47) (.t 50)⟩]) (
     .cond (.t 51) (
      .skip) (
      .exit 0))) (
    .seq (
     .block 1 (
      .seq (
       .drw none 12 [⟨(some 54), none, .fad 2 (.t 2)⟩,
         ⟨(some 55), none, .ld 1 false (.t 54)⟩,
         ⟨(some 56), none, .mv (.t 5)⟩,
         ⟨(some 57), none, .iad 1 (.t 55) (.t 56)⟩,
         ⟨(some 58), none, .ld 1 true (.t 57)⟩,
         ⟨(some 59), none, .fad 2 (.t 3)⟩,
         ⟨(some 60), none, .ld 1 false (.t 59)⟩,
         ⟨(some 61), none, .mv (.t 5)⟩,
         ⟨(some 62), none, .iad 1 (.t 60) (.t 61)⟩,
         ⟨(some 63), none, .ld 1 true (.t 62)⟩,
         ⟨(some 64), none, .call 34 [(.t 58), (.t 63)]⟩,
         ⟨(some 65), none, .not (.t 64)⟩]) (
      .cond (.t 65) (
       .seq (
        .reg none [⟨(some 4), none, .asn (.c (.bool false))⟩]) (
       .ret)) (
       .skip)))) (
    .reg none [⟨(some 52), none, .mv (.t 5)⟩,
      ⟨(some 53), none, .bin .add (.t 52) (.c (.int .i64 (1)))⟩,
      ⟨(some 5), none, .asn (.t 53)⟩])))))) (
 .seq (
  .seq (
   .reg none [⟨(some 6), none, .asn (.c (.int .i64 (0)))⟩]) (
  .block 2 (
   .loop (some ([2, 3, 6], [2, 3, 6, 1000])) (
    .seq (
     .seq (
      .reg none [⟨(some 66), none, .mv (.t 6)⟩,
        ⟨(some 67), none, .fad 3 (.t 2)⟩,
        ⟨(some 68), none, .ld 1 false (.t 67)⟩,
        ⟨(some 69), none, .len (.t 68)⟩,
        ⟨(some 70), none, .bin .lss (.t 66) (.t 69)⟩]) (
     .cond (.t 70) (
      .skip) (
      .exit 2))) (
    .seq (
     .block 3 (
      .seq (
       .drw none 12 [⟨(some 73), none, .fad 3 (.t 2)⟩,
         ⟨(some 74), none, .ld 1 false (.t 73)⟩,
         ⟨(some 75), none, .mv (.t 6)⟩,
         ⟨(some 76), none, .iad 2 (.t 74) (.t 75)⟩,
         ⟨(some 77), none, .ld 2 true (.t 76)⟩,
         ⟨(some 78), none, .fad 3 (.t 3)⟩,
         ⟨(some 79), none, .ld 1 false (.t 78)⟩,
         ⟨(some 80), none, .mv (.t 6)⟩,
         ⟨(some 81), none, .iad 2 (.t 79) (.t 80)⟩,
         ⟨(some 82), none, .ld 2 true (.t 81)⟩,
         ⟨(some 83), none, .call 35 [(.t 77), (.t 82)]⟩,
         ⟨(some 84), none, .not (.t 83)⟩]) (
      .cond (.t 84) (
       .seq (
        .reg none [⟨(some 4), none, .asn (.c (.bool false))⟩]) (
       .ret)) (
       .skip)))) (
    .reg none [⟨(some 71), none, .mv (.t 6)⟩,
      ⟨(some 72), none, .bin .add (.t 71) (.c (.int .i64 (1)))⟩,
      ⟨(some 6), none, .asn (.t 72)⟩])))))) (
 .seq (
  .seq (
   .reg none [⟨(some 7), none, .asn (.c (.int .i64 (0)))⟩]) (
  .block 4 (
   .loop (some ([2, 3, 7], [2, 3, 7, 1000])) (
    .seq (
     .seq (
      .reg none [⟨(some 85), none, .mv (.t 7)⟩,
        ⟨(some 86), none, .fad 4 (.t 2)⟩,
        ⟨(some 87), none, .ld 1 false (.t 86)⟩,
        ⟨(some 88), none, .len (.t 87)⟩,
        ⟨(some 89), none, .bin .lss (.t 85) (.t 88)⟩]) (
     .cond (.t 89) (
      .skip) (
      .exit 4))) (
    .seq (
     .block 5 (
      .seq (
       .drw none 12 [⟨(some 92), none, .fad 4 (.t 2)⟩,
         ⟨(some 93), none, .ld 1 false (.t 92)⟩,
         ⟨(some 94), none, .mv (.t 7)⟩,
         ⟨(some 95), none, .iad 10 (.t 93) (.t 94)⟩,
         ⟨(some 96), none, .ld 10 true (.t 95)⟩,
         ⟨(some 97), none, .fad 4 (.t 3)⟩,
         ⟨(some 98), none, .ld 1 false (.t 97)⟩,
         ⟨(some 99), none, .mv (.t 7)⟩,
         ⟨(some 100), none, .iad 10 (.t 98) (.t 99)⟩,
         ⟨(some 101), none, .ld 10 true (.t 100)⟩,
         ⟨(some 102), none, .call 36 [(.t 96), (.t 101)]⟩,
         ⟨(some 103), none, .not (.t 102)⟩]) (
      .cond (.t 103) (
       .seq (
        .reg none [⟨(some 4), none, .asn (.c (.bool false))⟩]) (
       .ret)) (
       .skip)))) (
    .reg none [⟨(some 90), none, .mv (.t 7)⟩,
      ⟨(some 91), none, .bin .add (.t 90) (.c (.int .i64 (1)))⟩,
      ⟨(some 7), none, .asn (.t 91)⟩])))))) (
 .seq (
  .reg none [⟨(some 4), none, .asn (.c (.bool true))⟩]) (
 .ret))))))
def r_spec_HouseSame : Nat × List RV := (104, [.t 4])

theorem c_spec_HouseSame : cmpS PT PF PA (Tryz.prog.funcs[7]?) = some (r_spec_HouseSame.1, r_spec_HouseSame.2, stripK k_spec_HouseSame) := by kernel_rfl

theorem h_spec_HouseSame (a b : THouse) (ha : wHouse a < 2 ^ 40) : CallsF Tryz.prog 7 [.agg (sHouse a), .agg (sHouse b)] (aB (decide (a = b))) := by
  refine Prun c_spec_HouseSame (by simp [r_spec_HouseSame]) (by simp) ?_
  unfold k_spec_HouseSame r_spec_HouseSame
  obtain ⟨a0, a1, a2, a3, a4⟩ := a
  obtain ⟨b0, b1, b2, b3, b4⟩ := b
  simp only [wHouse] at ha
  have hl2 := wL_len wGram a2
  have hl3 := wL_len wStore a3
  have hl4 := wL_len wTenant a4
  by_cases q0 : a0 = b0
  case neg => simp [sHouse, q0]
  by_cases q1 : a1 = b1
  case neg => simp [sHouse, q0, q1]
  by_cases q2 : a2.length = b2.length
  case neg =>
    have hx : ¬ (a2.length : Int) = b2.length := by omega
    have hx' : ¬ a2 = b2 := fun hh => q2 (by rw [hh])
    simp [sHouse, q0, q1, hx, hx']
  by_cases q3 : a3.length = b3.length
  case neg =>
    have hx : ¬ (a3.length : Int) = b3.length := by omega
    have hx' : ¬ a3 = b3 := fun hh => q3 (by rw [hh])
    simp [sHouse, q0, q1, q2, hx, hx']
  by_cases q4 : a4.length = b4.length
  case neg =>
    have hx : ¬ (a4.length : Int) = b4.length := by omega
    have hx' : ¬ a4 = b4 := fun hh => q4 (by rw [hh])
    simp [sHouse, q0, q1, q2, q3, hx, hx']
  simp [sHouse, q0, q1, q2, q3, q4]
  refine awp_loop (fun n σ => ∃ i : Nat, i ≤ a2.length ∧ n = a2.length - i ∧ a2.take i = b2.take i ∧ σ = ⟨[(2, .one (.pt 5 2 [] 0 0)), (3, .one (.pt 5 3 [] 0 0)), (5, aI i)], [(2, ⟨33, 5, [[cI b0, cI b1, .ar false 0 1 (a2.map sGram), .ar false 0 2 (a3.map sStore), .ar false 0 10 (a4.map sTenant)]]⟩), (3, ⟨33, 5, [[cI b0, cI b1, .ar false 0 1 (b2.map sGram), .ar false 0 2 (b3.map sStore), .ar false 0 10 (b4.map sTenant)]]⟩)]⟩) (a2.length) ⟨0, by simp⟩ ?_
  rintro n σ ⟨i, hi, rfl, ht, rfl⟩
  by_cases h : i < a2.length
  · have h2 : i < b2.length := by omega
    have hw := wL_get wGram a2 i h
    have w1 : IntKind.i64.wrap ((i : Int) + 1) = i + 1 := wrapI (by omega) (by omega)
    have hfin : ∀ (hne : ¬ a2[i] = b2[i]), ¬ a2 = b2 := fun hne hh => by subst hh; exact hne rfl
    have hc := h_l15Gram a2[i] b2[i] (by omega)
    simp only [sGram] at hc
    simp [h, h2, sGram]
    first | refine callG_F hc (by simp) ?_ | refine ⟨_, by simp, hc, ?_⟩
    by_cases e : a2[i] = b2[i]
    case neg =>
      have := hfin e
      simp [e, this]
    simp [e]
    refine ⟨a2.length - (i + 1), by omega, i + 1, by omega, rfl, (take_step h h2).2 ⟨ht, e⟩, ?_⟩
    simp [w1]
  have hi2 : i = a2.length := by omega
  have hh2 : a2 = b2 := by rw [hi2, List.take_length, q2, List.take_length] at ht; exact ht
  clear ht hi
  subst hi2
  simp
  refine awp_loop (fun n σ => ∃ i : Nat, i ≤ a3.length ∧ n = a3.length - i ∧ a3.take i = b3.take i ∧ σ = ⟨[(2, .one (.pt 5 2 [] 0 0)), (3, .one (.pt 5 3 [] 0 0)), (6, aI i)], [(2, ⟨33, 5, [[cI b0, cI b1, .ar false 0 1 (a2.map sGram), .ar false 0 2 (a3.map sStore), .ar false 0 10 (a4.map sTenant)]]⟩), (3, ⟨33, 5, [[cI b0, cI b1, .ar false 0 1 (b2.map sGram), .ar false 0 2 (b3.map sStore), .ar false 0 10 (b4.map sTenant)]]⟩)]⟩) (a3.length) ⟨0, by simp⟩ ?_
  rintro n σ ⟨i, hi, rfl, ht, rfl⟩
  by_cases h : i < a3.length
  · have h2 : i < b3.length := by omega
    have hw := wL_get wStore a3 i h
    have w1 : IntKind.i64.wrap ((i : Int) + 1) = i + 1 := wrapI (by omega) (by omega)
    have hfin : ∀ (hne : ¬ a3[i] = b3[i]), ¬ a3 = b3 := fun hne hh => by subst hh; exact hne rfl
    have hc := h_spec_StoreSame a3[i] b3[i] (by omega)
    simp only [sStore] at hc
    simp [h, h2, sStore]
    first | refine callG_F hc (by simp) ?_ | refine ⟨_, by simp, hc, ?_⟩
    by_cases e : a3[i] = b3[i]
    case neg =>
      have := hfin e
      simp [e, this]
    simp [e]
    refine ⟨a3.length - (i + 1), by omega, i + 1, by omega, rfl, (take_step h h2).2 ⟨ht, e⟩, ?_⟩
    simp [w1]
  have hi3 : i = a3.length := by omega
  have hh3 : a3 = b3 := by rw [hi3, List.take_length, q3, List.take_length] at ht; exact ht
  clear ht hi
  subst hi3
  simp
  refine awp_loop (fun n σ => ∃ i : Nat, i ≤ a4.length ∧ n = a4.length - i ∧ a4.take i = b4.take i ∧ σ = ⟨[(2, .one (.pt 5 2 [] 0 0)), (3, .one (.pt 5 3 [] 0 0)), (7, aI i)], [(2, ⟨33, 5, [[cI b0, cI b1, .ar false 0 1 (a2.map sGram), .ar false 0 2 (a3.map sStore), .ar false 0 10 (a4.map sTenant)]]⟩), (3, ⟨33, 5, [[cI b0, cI b1, .ar false 0 1 (b2.map sGram), .ar false 0 2 (b3.map sStore), .ar false 0 10 (b4.map sTenant)]]⟩)]⟩) (a4.length) ⟨0, by simp⟩ ?_
  rintro n σ ⟨i, hi, rfl, ht, rfl⟩
  by_cases h : i < a4.length
  · have h2 : i < b4.length := by omega
    have hw := wL_get wTenant a4 i h
    have w1 : IntKind.i64.wrap ((i : Int) + 1) = i + 1 := wrapI (by omega) (by omega)
    have hfin : ∀ (hne : ¬ a4[i] = b4[i]), ¬ a4 = b4 := fun hne hh => by subst hh; exact hne rfl
    have hc := h_l15Tenant a4[i] b4[i] (by omega)
    simp only [sTenant] at hc
    simp [h, h2, sTenant]
    first | refine callG_F hc (by simp) ?_ | refine ⟨_, by simp, hc, ?_⟩
    by_cases e : a4[i] = b4[i]
    case neg =>
      have := hfin e
      simp [e, this]
    simp [e]
    refine ⟨a4.length - (i + 1), by omega, i + 1, by omega, rfl, (take_step h h2).2 ⟨ht, e⟩, ?_⟩
    simp [w1]
  have hi4 : i = a4.length := by omega
  have hh4 : a4 = b4 := by rw [hi4, List.take_length, q4, List.take_length] at ht; exact ht
  clear ht hi
  subst hi4
  simp [hh2, hh3, hh4]
end Go.Am
-- IntSS_eq
namespace Go.Am
open Go.Proofs
set_option maxHeartbeats 4000000
set_option maxRecDepth 100000
-- 93 loop.example/g00485/laws.eqIntSS
def k_laws_eqIntSS : K :=
 .seq (
  .reg none [⟨(some 4), none, .asn (.c (.bool false))⟩]) (
 .seq (
  .seq (
   .reg none [⟨(some 6), none, .mv (.t 0)⟩,
     ⟨(some 7), none, .len (.t 6)⟩,
     ⟨(some 8), none, .mv (.t 1)⟩,
     ⟨(some 9), none, .len (.t 8)⟩,
     ⟨(some 10), none, .bin .neq (.t 7) (.t 9)⟩]) (
  .cond (.t 10) (
   .seq (
    .reg none [⟨(some 4), none, .asn (.c (.bool false))⟩]) (
   .ret)) (
   .skip))) (
 .seq (
  .seq (
   .reg none [⟨(some 5), none, .asn (.c (.int .i64 (0)))⟩]) (
  .block 0 (
   .loop (some ([0, 1, 5], [0, 1, 5, 1000])) (
    .seq (
     .seq (
      .reg none [⟨(some 11), none, .mv (.t 5)⟩,
        ⟨(some 12), none, .mv (.t 0)⟩,
        ⟨(some 13), none, .len (.t 12)⟩,
        ⟨(some 14), none, .bin .lss (.t 11) (.t 13)⟩]) (
     .cond (.t 14) (
      .skip) (
      .exit 0))) (
    .seq (
     .block 1 (
      .seq (
       .drw none 10 [⟨(some 17), none, .mv (.t 0)⟩,
         ⟨(some 18), none, .mv (.t 5)⟩,
         ⟨(some 19), none, .iad 1 (.t 17) (.t 18)⟩,
         ⟨(some 20), none, .ld 1 false (.t 19)⟩,
         ⟨(some 21), none, .mv (.t 1)⟩,
         ⟨(some 22), none, .mv (.t 5)⟩,
         ⟨(some 23), none, .iad 1 (.t 21) (.t 22)⟩,
         ⟨(some 24), none, .ld 1 false (.t 23)⟩,
         ⟨(some 25), none, .call 17 [(.t 20), (.t 24)]⟩,
         ⟨(some 26), none, .not (.t 25)⟩]) (
      .cond (.t 26) (
       .seq (
        .reg none [⟨(some 4), none, .asn (.c (.bool false))⟩]) (
       .ret)) (
       .skip)))) (
    .reg none [⟨(some 15), none, .mv (.t 5)⟩,
      ⟨(some 16), none, .bin .add (.t 15) (.c (.int .i64 (1)))⟩,
      ⟨(some 5), none, .asn (.t 16)⟩])))))) (
 .seq (
  .reg none [⟨(some 4), none, .asn (.c (.bool true))⟩]) (
 .ret))))
def r_laws_eqIntSS : Nat × List RV := (27, [.t 4])

theorem c_laws_eqIntSS : cmpS PT PF PA (Tryz.prog.funcs[93]?) = some (r_laws_eqIntSS.1, r_laws_eqIntSS.2, stripK k_laws_eqIntSS) := by kernel_rfl

theorem h_eqIntSS (xs : List (List Int)) (hx : wL (wL w0) xs < 2 ^ 40) : CallsF Tryz.prog 93 [.one (.ar false 0 1 (xs.map sIS)), .one (.ar false 0 1 (xs.map sIS))] (aB true) := by
  refine Prun c_laws_eqIntSS (by simp [r_laws_eqIntSS]) (by simp) ?_
  unfold k_laws_eqIntSS r_laws_eqIntSS
  have hlen := wL_len (wL w0) xs
  simp
  refine awp_loop (fun n σ => ∃ i : Nat, i ≤ xs.length ∧ n = xs.length - i ∧ σ = ⟨[(0, .one (.ar false 0 1 (xs.map sIS))), (1, .one (.ar false 0 1 (xs.map sIS))), (5, aI i)], []⟩) (xs.length) ⟨0, by simp⟩ ?_
  rintro n σ ⟨i, hi, rfl, rfl⟩
  by_cases h : i < xs.length
  · have hw := wL_get (wL w0) xs i h
    simp [h, sIS]
    refine ⟨_, by simp, h_eqIntS xs[i] (by omega), ?_⟩
    simp
    refine ⟨xs.length - (i + 1), by omega, i + 1, by omega, rfl, ?_⟩
    rw [wrapI (by omega) (by omega)]
    simp
  · simp [h]
end Go.Am
-- IntSSS_eq
namespace Go.Am
open Go.Proofs
set_option maxHeartbeats 4000000
set_option maxRecDepth 100000
-- 53 loop.example/g00485/laws.eqIntSSS
def k_laws_eqIntSSS : K :=
 .seq (
  .reg none [⟨(some 4), none, .asn (.c (.bool false))⟩]) (
 .seq (
  .seq (
   .reg none [⟨(some 6), none, .mv (.t 0)⟩,
     ⟨(some 7), none, .len (.t 6)⟩,
     ⟨(some 8), none, .mv (.t 1)⟩,
     ⟨(some 9), none, .len (.t 8)⟩,
     ⟨(some 10), none, .bin .neq (.t 7) (.t 9)⟩]) (
  .cond (.t 10) (
   .seq (
    .reg none [⟨(some 4), none, .asn (.c (.bool false))⟩]) (
   .ret)) (
   .skip))) (
 .seq (
  .seq (
   .reg none [⟨(some 5), none, .asn (.c (.int .i64 (0)))⟩]) (
  .block 0 (
   .loop (some ([0, 1, 5], [0, 1, 5, 1000])) (
    .seq (
     .seq (
      .reg none [⟨(some 11), none, .mv (.t 5)⟩,
        ⟨(some 12), none, .mv (.t 0)⟩,
        ⟨(some 13), none, .len (.t 12)⟩,
        ⟨(some 14), none, .bin .lss (.t 11) (.t 13)⟩]) (
     .cond (.t 14) (
      .skip) (
      .exit 0))) (
    .seq (
     .block 1 (
      .seq (
       .drw none 10 [⟨(some 17), none, .mv (.t 0)⟩,
         ⟨(some 18), none, .mv (.t 5)⟩,
         ⟨(some 19), none, .iad 1 (.t 17) (.t 18)⟩,
         ⟨(some 20), none, .ld 1 false (.t 19)⟩,
         ⟨(some 21), none, .mv (.t 1)⟩,
         ⟨(some 22), none, .mv (.t 5)⟩,
         ⟨(some 23), none, .iad 1 (.t 21) (.t 22)⟩,
         ⟨(some 24), none, .ld 1 false (.t 23)⟩,
         ⟨(some 25), none, .call 93 [(.t 20), (.t 24)]⟩,
         ⟨(some 26), none, .not (.t 25)⟩]) (
      .cond (.t 26) (
       .seq (
        .reg none [⟨(some 4), none, .asn (.c (.bool false))⟩]) (
       .ret)) (
       .skip)))) (
    .reg none [⟨(some 15), none, .mv (.t 5)⟩,
      ⟨(some 16), none, .bin .add (.t 15) (.c (.int .i64 (1)))⟩,
      ⟨(some 5), none, .asn (.t 16)⟩])))))) (
 .seq (
  .reg none [⟨(some 4), none, .asn (.c (.bool true))⟩]) (
 .ret))))
def r_laws_eqIntSSS : Nat × List RV := (27, [.t 4])

theorem c_laws_eqIntSSS : cmpS PT PF PA (Tryz.prog.funcs[53]?) = some (r_laws_eqIntSSS.1, r_laws_eqIntSSS.2, stripK k_laws_eqIntSSS) := by kernel_rfl

theorem h_eqIntSSS (xs : List (List (List Int))) (hx : wL (wL (wL w0)) xs < 2 ^ 40) : CallsF Tryz.prog 53 [.one (.ar false 0 1 (xs.map sISS)), .one (.ar false 0 1 (xs.map sISS))] (aB true) := by
  refine Prun c_laws_eqIntSSS (by simp [r_laws_eqIntSSS]) (by simp) ?_
  unfold k_laws_eqIntSSS r_laws_eqIntSSS
  have hlen := wL_len (wL (wL w0)) xs
  simp
  refine awp_loop (fun n σ => ∃ i : Nat, i ≤ xs.length ∧ n = xs.length - i ∧ σ = ⟨[(0, .one (.ar false 0 1 (xs.map sISS))), (1, .one (.ar false 0 1 (xs.map sISS))), (5, aI i)], []⟩) (xs.length) ⟨0, by simp⟩ ?_
  rintro n σ ⟨i, hi, rfl, rfl⟩
  by_cases h : i < xs.length
  · have hw := wL_get (wL (wL w0)) xs i h
    simp [h, sISS]
    refine ⟨_, by simp, h_eqIntSS xs[i] (by omega), ?_⟩
    simp
    refine ⟨xs.length - (i + 1), by omega, i + 1, by omega, rfl, ?_⟩
    rw [wrapI (by omega) (by omega)]
    simp
  · simp [h]
end Go.Am
-- Gram_eq1
namespace Go.Am
open Go.Proofs
set_option maxHeartbeats 4000000
set_option maxRecDepth 100000
-- 16 loop.example/g00485/laws.eqGram
def k_laws_eqGram : K :=
 .seq (
  .reg none [⟨(some 2), none, .box 42 1 (.t 0)⟩,
    ⟨(some 3), none, .box 42 1 (.t 1)⟩,
    ⟨(some 4), none, .asn (.c (.bool false))⟩]) (
 .seq (
  .seq (
   .reg none [⟨(some 5), none, .fad 0 (.t 2)⟩,
     ⟨(some 6), none, .ld 1 false (.t 5)⟩,
     ⟨(some 7), none, .fad 0 (.t 3)⟩,
     ⟨(some 8), none, .ld 1 false (.t 7)⟩,
     ⟨(some 9), none, .call 53 [(.t 6), (.t 8)]⟩,
     ⟨(some 10), none, .not (.t 9)⟩]) (
  .cond (.t 10) (
   .seq (
    .reg none [⟨(some 4), none, .asn (.c (.bool false))⟩]) (
   .ret)) (
   .skip))) (
 .seq (
  .reg none [⟨(some 4), none, .asn (.c (.bool true))⟩]) (
 .ret)))
def r_laws_eqGram : Nat × List RV := (11, [.t 4])

theorem c_laws_eqGram : cmpS PT PF PA (Tryz.prog.funcs[16]?) = some (r_laws_eqGram.1, r_laws_eqGram.2, stripK k_laws_eqGram) := by kernel_rfl

theorem h_eqGram (a : TGram) (ha : wGram a < 2 ^ 40) : CallsF Tryz.prog 16 [.agg (sGram a), .agg (sGram a)] (aB true) := by
  refine Prun c_laws_eqGram (by simp [r_laws_eqGram]) (by simp) ?_
  unfold k_laws_eqGram r_laws_eqGram
  simp only [wGram] at ha
  simp [sGram]
  refine callG_F (h_eqIntSSS a.parts (by omega)) (by simp) ?_
  simp
end Go.Am
