/- PROVED: the program's SetAlts returns what the reference's returns, for all arguments. -/
import Derived.Test.YthkjmplgdceajaaAm6
import Derived.Test.YthkjmplgdceajaaProg
import Derived.Test.YthkjmplgdceajaaRows
import Derived.ProofKit
set_option linter.unusedVariables false
set_option linter.unusedSimpArgs false
namespace Go.Am
open Go.Proofs
noncomputable def PT : List (Nat × TI) := mkT Try.prog (List.range 182)
noncomputable def PF : List Nat := mkF Try.prog (List.range 133)
def PA : An := ⟨[], false, true, [(19, 0), (20, 0), (25, 0), (32, 0), (49, 0)], false, [(54, 1), (77, 3)]⟩
def PB : An := ⟨[], false, true, [(19, 0), (20, 0), (25, 0), (32, 0), (49, 0)], true, [(54, 1), (77, 3)]⟩
theorem Pmo : PA.mo = true → Try.prog.follows .mixedOrders = true := fun _ => by kernel_rfl
theorem PmoB : PB.mo = true → Try.prog.follows .mixedOrders = true := fun _ => by kernel_rfl
theorem Prun {f : FuncId} {k : K} {r : Nat × List RV} {args : List A} {v : A} (hc : cmpS PT PF PA (Try.prog.funcs[f]?) = some (r.1, r.2, stripK k)) (hn : args.length ≤ r.1) (hn2 : args.length ≤ 1000)
    (h : awp Try.prog k (FPost' r.2 fun a H => H = [] ∧ a = v) (entry args [])) : CallsF Try.prog f args v := callF_run (mkT_ok _ _) (mkF_ok _ _) PA Pmo hc hn hn2 h
theorem PrunA {f : FuncId} {k : K} {r : Nat × List RV} {args : List A} {H : List (Nat × Obj)} {R : A → List (Nat × Obj) → Prop} (hc : cmpS PT PF PA (Try.prog.funcs[f]?) = some (r.1, r.2, stripK k)) (hn : args.length ≤ r.1) (hn2 : args.length ≤ 1000)
    (h : awp Try.prog k (FPost' r.2 R) (entry args H)) : CallsA Try.prog f args H R := calls_runS (mkT_ok _ _) (mkF_ok _ _) PA Pmo hc hn hn2 h
theorem PfnOk (f : Nat) (h : PF.contains f = true) : FnOk Try.prog f := fnOk_of (mkF_ok _ _) h
theorem PrunB {f : FuncId} {k : K} {r : Nat × List RV} {args : List A} {H : List (Nat × Obj)} {R : A → List (Nat × Obj) → Prop} (hc : cmpS PT PF PB (Try.prog.funcs[f]?) = some (r.1, r.2, stripK k)) (hn : args.length ≤ r.1) (hn2 : args.length ≤ 1000)
    (h : awp Try.prog k (FPost' r.2 R) (entry args H)) : CallsA Try.prog f args H R := calls_runS (mkT_ok _ _) (mkF_ok _ _) PB PmoB hc hn hn2 h
end Go.Am
-- lists
namespace Go.Am
open Go.Proofs
set_option maxHeartbeats 4000000
theorem all_step {α : Type} {p : α → Bool} {xs : List α} {i : Nat} (h : i < xs.length) : (xs.take (i + 1)).all p = ((xs.take i).all p && p xs[i]) := by
  rw [List.take_succ_eq_append_getElem h]
  simp only [List.all_append, List.all_cons, List.all_nil, Bool.and_true]
theorem all_ff {α : Type} {p : α → Bool} {xs : List α} {i : Nat} (h : i < xs.length) (hp : p xs[i] = false) : xs.all p = false := by
  cases ha : xs.all p with
  | false => rfl
  | true =>
    have := List.all_eq_true.1 ha xs[i] (List.getElem_mem h)
    rw [hp] at this; cases this
/-- All of the first i. -/
def allTo {α : Type} (p : α → Bool) (xs : List α) (i : Nat) : Bool := (xs.take i).all p
theorem allTo_zero {α : Type} {p : α → Bool} {xs : List α} : allTo p xs 0 = true := by simp [allTo]
theorem allTo_step {α : Type} {p : α → Bool} {xs : List α} {i : Nat} (h : i < xs.length) : allTo p xs (i + 1) = (allTo p xs i && p xs[i]) := all_step h
theorem allTo_all {α : Type} {p : α → Bool} {xs : List α} : allTo p xs xs.length = xs.all p := by rw [allTo, List.take_length]
/-- All below n. -/
def allN (p : Nat → Bool) : Nat → Bool
  | 0 => true
  | n + 1 => allN p n && p n
theorem allN_step {p : Nat → Bool} {n : Nat} : allN p (n + 1) = (allN p n && p n) := rfl
theorem allN_iff {p : Nat → Bool} : ∀ {n : Nat}, allN p n = true ↔ ∀ i, i < n → p i = true
  | 0 => by simp [allN]
  | n + 1 => by
    rw [allN, Bool.and_eq_true, allN_iff (n := n)]
    constructor
    · rintro ⟨h1, h2⟩ i hi
      by_cases h : i = n
      · subst h; exact h2
      · exact h1 i (by omega)
    · intro h; exact ⟨fun i hi => h i (by omega), h n (by omega)⟩
theorem allN_ff {p : Nat → Bool} {n i : Nat} (h : i < n) (hp : p i = false) : allN p n = false := by
  cases ha : allN p n with
  | false => rfl
  | true => have := allN_iff.1 ha i h; rw [hp] at this; cases this
end Go.Am
-- InsInt
namespace Go.Am
open Go.Proofs
set_option maxHeartbeats 4000000
def renInt : Shelf.Ren := ⟨fun k => if k = 22 then 77 else if k = 29 then 91 else 92, fun k => if k = 9 then 3 else if k = 24 then 24 else k, fun k => k⟩
theorem laid_InsInt : AmL.LIns Try.prog renInt 1 where
  mixed := by kernel_rfl
  f22 := ⟨"slices.Insert[[]int,int]", by decide, by kernel_rfl⟩
  ov := ⟨_, Try.func91, by kernel_rfl, by kernel_rfl, by kernel_rfl, by kernel_rfl⟩
  t3 := Try.underlying3
  a3 := Try.isAgg3
  z3 := Try.sizeOf3
  t4 := Try.underlying4
  a4 := Try.isAgg4
  z4 := Try.sizeOf4
  z9 := Try.sizeOf3
  t24 := Try.underlying24
  a24 := Try.isAgg24
  z24 := Try.sizeOf24
  i9 := by
    obtain ⟨i, h1, h2, h3, h4⟩ := info_parts (show (Try.prog.info? 3).map (fun i => (i.zero, i.size, i.bytes)) = some (some (.int .i64 0), 1, 8) by kernel_rfl)
    exact ⟨i, _, h1, h2, h3, by omega, rfl⟩
  he := by decide
theorem h_insInt (xs : List Int) (x : Int) (i : Nat) (hi : i ≤ xs.length) (hn : xs.length + 1 ≤ 4294967296) : CallsF Try.prog 77 [.one (.ar true 3 1 (xs.map rI)), aI i, .one (.ar true 3 1 [rI x])] (.one (.ar true 3 1 ((xs.take i ++ [x] ++ xs.drop i).map rI))) := by
  have h := ins_callsA laid_InsInt (xs.map rI) (rI x) i (by simpa using hi) (by simpa using hn)
  simpa [renInt, aI, cI] using h
end Go.Am
-- Contains
namespace Go.Am
open Go.Proofs
set_option maxHeartbeats 4000000
def indexOf (xs : List Int) (x : Int) : Int := match xs.idxOf? x with
  | some i => i
  | none => -1
-- 90 slices.Index[[]int,int]
def k_slices_Index_int_int : K :=
 .seq (
  .reg none [⟨(some 4), none, .asn (.c (.int .i64 (0)))⟩]) (
 .seq (
  .seq (
   .reg none [⟨(some 6), none, .mv (.t 0)⟩,
     ⟨(some 7), none, .len (.t 6)⟩,
     ⟨(some 8), none, .mv (.c (.int .i64 (0)))⟩]) (
  .block 0 (
   .loop (some ([0, 1, 7, 8], [0, 1, 1000])) (
    .seq (
     .reg none [⟨(some 9), none, .bin .lss (.t 8) (.t 7)⟩]) (
    .seq (
     .cond (.t 9) (
      .skip) (
      .exit 0)) (
    .seq (
     .block 1 (
      .seq (
       .reg none [⟨(some 10), none, .mv (.t 8)⟩,
         ⟨(some 5), none, .asn (.t 10)⟩]) (
      .seq (
       .reg none [⟨(some 11), none, .mv (.t 1)⟩,
         ⟨(some 12), none, .mv (.t 0)⟩,
         ⟨(some 13), none, .mv (.t 5)⟩,
         ⟨(some 14), none, .iad 1 (.t 12) (.t 13)⟩,
         ⟨(some 15), none, .ld 1 false (.t 14)⟩,
         ⟨(some 16), none, .bin .eql (.t 11) (.t 15)⟩]) (
      .cond (.t 16) (
       .seq (
        .reg none [⟨(some 17), none, .mv (.t 5)⟩,
          ⟨(some 4), none, .asn (.t 17)⟩]) (
       .ret)) (
       .skip))))) (
    .reg none [⟨(some 18), none, .bin .add (.t 8) (.c (.int .i64 (1)))⟩,
      ⟨(some 8), none, .mv (.t 18)⟩]))))))) (
 .seq (
  .reg none [⟨(some 4), none, .asn (.c (.int .i64 (-1)))⟩]) (
 .ret)))
def r_slices_Index_int_int : Nat × List RV := (19, [.t 4])

theorem c_slices_Index_int_int : cmpS PT PF PA (Try.prog.funcs[90]?) = some (r_slices_Index_int_int.1, r_slices_Index_int_int.2, stripK k_slices_Index_int_int) := by kernel_rfl

theorem h_slicesIndex (xs : List Int) (x : Int) (hx : xs.length < 2 ^ 63) : CallsF Try.prog 90 [.one (.ar false 0 1 (xs.map rI)), aI x] (aI (indexOf xs x)) := by
  refine Prun c_slices_Index_int_int (by simp [r_slices_Index_int_int]) (by simp) ?_
  unfold k_slices_Index_int_int r_slices_Index_int_int
  simp
  refine awp_loop (fun n σ => ∃ i : Nat, i ≤ xs.length ∧ n = xs.length - i ∧ x ∉ xs.take i ∧ σ = ⟨[(0, .one (.ar false 0 1 (xs.map rI))), (1, aI x), (7, aI xs.length), (8, aI i)], []⟩) xs.length ⟨0, by simp⟩ ?_
  rintro n σ ⟨i, hi, rfl, ha, rfl⟩
  by_cases h : i < xs.length
  · by_cases c : x = xs[i]
    · have : indexOf xs x = i := by
        have : xs.idxOf? x = some i := by
          rw [List.idxOf?, List.findIdx?_eq_some_iff_getElem]
          refine ⟨h, by simp [c], fun j hj => ?_⟩
          simp only [beq_iff_eq, Bool.not_eq_true, beq_eq_false_iff_ne, ne_eq]
          intro he
          exact ha (by rw [← he]; exact List.mem_take_iff_getElem.2 ⟨j, by omega, rfl⟩)
        rw [indexOf, this]
      simp [h, ← c, this]
    · simp [h, c]
      refine ⟨xs.length - (i + 1), by omega, i + 1, by omega, rfl, ?_, ?_⟩
      · rw [List.take_succ_eq_append_getElem h]
        intro hm
        rcases List.mem_append.1 hm with hm | hm
        · exact ha hm
        · exact c (List.mem_singleton.1 hm)
      · rw [wrapI (by omega) (by omega)]
        simp
  · have : i = xs.length := by omega
    subst this
    rw [List.take_length] at ha
    have : indexOf xs x = -1 := by
      have : xs.idxOf? x = none := by
        rw [List.idxOf?_eq_none_iff]; exact ha
      rw [indexOf, this]
    simp [this]
-- 76 slices.Contains[[]int,int]
def k_slices_Contains_int_int : K :=
 .seq (
  .reg none [⟨(some 4), none, .asn (.c (.bool false))⟩]) (
 .seq (
  .reg none [⟨(some 5), none, .mv (.t 0)⟩,
    ⟨(some 6), none, .mv (.t 1)⟩,
    ⟨(some 7), none, .call 90 [(.t 5), (.t 6)]⟩,
    ⟨(some 8), none, .bin .geq (.t 7) (.c (.int .i64 (0)))⟩,
    ⟨(some 4), none, .asn (.t 8)⟩]) (
 .ret))
def r_slices_Contains_int_int : Nat × List RV := (9, [.t 4])

theorem c_slices_Contains_int_int : cmpS PT PF PA (Try.prog.funcs[76]?) = some (r_slices_Contains_int_int.1, r_slices_Contains_int_int.2, stripK k_slices_Contains_int_int) := by kernel_rfl

theorem h_slicesContains (xs : List Int) (x : Int) (hx : xs.length < 2 ^ 63) : CallsF Try.prog 76 [.one (.ar false 0 1 (xs.map rI)), aI x] (aB (decide (x ∈ xs))) := by
  refine Prun c_slices_Contains_int_int (by simp [r_slices_Contains_int_int]) (by simp) ?_
  unfold k_slices_Contains_int_int r_slices_Contains_int_int
  simp
  refine callG_F (h_slicesIndex _ _ hx) (by simp) ?_
  have : (0 ≤ indexOf xs x) ↔ x ∈ xs := by
    unfold indexOf
    split
    · rename_i i h
      have := List.isSome_idxOf? (l := xs) (a := x)
      rw [h] at this
      simp at this
      constructor
      · intro; exact this
      · intro; omega
    · rename_i h
      rw [List.idxOf?_eq_none_iff] at h
      constructor
      · intro; omega
      · intro h2; exact absurd h2 h
  simp [this]
end Go.Am
-- ints
namespace Go.Am
open Go.Proofs
set_option maxHeartbeats 4000000
-- 17 loop.example/g00485/laws.eqIntS
def k_laws_eqIntS : K :=
 .seq (
  .reg none [⟨(some 4), none, .asn (.c (.bool false))⟩]) (
 .seq (
  .seq (
   .reg none [⟨(some 6), none, .mv (.t 0)⟩,
     ⟨(some 7), none, .len (.t 6)⟩,
     ⟨(some 8), none, .mv (.t 1)⟩,
     ⟨(some 9), none, .len (.t 8)⟩,
     ⟨(some 10), none, .bin .neq (.t 7) (.t 9)⟩]) (
  .cond (.t 10) (
   .seq (
    .reg none [⟨(some 4), none, .asn (.c (.bool false))⟩]) (
   .ret)) (
   .skip))) (
 .seq (
  .seq (
   .reg none [⟨(some 5), none, .asn (.c (.int .i64 (0)))⟩]) (
  .block 0 (
   .loop (some ([0, 1, 5], [0, 1, 5, 1000])) (
    .seq (
     .seq (
      .reg none [⟨(some 11), none, .mv (.t 5)⟩,
        ⟨(some 12), none, .mv (.t 0)⟩,
        ⟨(some 13), none, .len (.t 12)⟩,
        ⟨(some 14), none, .bin .lss (.t 11) (.t 13)⟩]) (
     .cond (.t 14) (
      .skip) (
      .exit 0))) (
    .seq (
     .block 1 (
      .seq (
       .drw none 9 [⟨(some 17), none, .mv (.t 0)⟩,
         ⟨(some 18), none, .mv (.t 5)⟩,
         ⟨(some 19), none, .iad 1 (.t 17) (.t 18)⟩,
         ⟨(some 20), none, .ld 1 false (.t 19)⟩,
         ⟨(some 21), none, .mv (.t 1)⟩,
         ⟨(some 22), none, .mv (.t 5)⟩,
         ⟨(some 23), none, .iad 1 (.t 21) (.t 22)⟩,
         ⟨(some 24), none, .ld 1 false (.t 23)⟩,
         ⟨(some 25), none, .bin .neq (.t 20) (.t 24)⟩]) (
      .cond (.t 25) (
       .seq (
        .reg none [⟨(some 4), none, .asn (.c (.bool false))⟩]) (
       .ret)) (
       .skip)))) (
    .reg none [⟨(some 15), none, .mv (.t 5)⟩,
      ⟨(some 16), none, .bin .add (.t 15) (.c (.int .i64 (1)))⟩,
      ⟨(some 5), none, .asn (.t 16)⟩])))))) (
 .seq (
  .reg none [⟨(some 4), none, .asn (.c (.bool true))⟩]) (
 .ret))))
def r_laws_eqIntS : Nat × List RV := (26, [.t 4])

theorem c_laws_eqIntS : cmpS PT PF PA (Try.prog.funcs[17]?) = some (r_laws_eqIntS.1, r_laws_eqIntS.2, stripK k_laws_eqIntS) := by kernel_rfl

theorem h_eqIntS (xs : List Int) (hx : wL w0 xs < 2 ^ 40) : CallsF Try.prog 17 [.one (.ar false 0 1 (xs.map rI)), .one (.ar false 0 1 (xs.map rI))] (aB true) := by
  refine Prun c_laws_eqIntS (by simp [r_laws_eqIntS]) (by simp) ?_
  unfold k_laws_eqIntS r_laws_eqIntS
  rw [wL_w0] at hx
  simp
  refine awp_loop (fun n σ => ∃ i : Nat, i ≤ xs.length ∧ n = xs.length - i ∧ σ = ⟨[(0, .one (.ar false 0 1 (xs.map rI))), (1, .one (.ar false 0 1 (xs.map rI))), (5, aI i)], []⟩) (xs.length) ⟨0, by simp⟩ ?_
  rintro n σ ⟨i, hi, rfl, rfl⟩
  by_cases h : i < xs.length
  · simp [h]
    refine ⟨xs.length - (i + 1), by omega, i + 1, by omega, rfl, ?_⟩
    rw [wrapI (by omega) (by omega)]
    simp
  · simp [h]
-- 14 loop.example/g00485/laws.toIntS
def k_laws_toIntS : K :=
 .seq (
  .reg none [⟨(some 2), none, .asn (.c (.ar true 3 1 []))⟩]) (
 .seq (
  .reg none [⟨(some 5), none, .mv (.t 0)⟩,
    ⟨(some 6), none, .len (.t 5)⟩,
    ⟨(some 7), none, .mks 3 1 8 [(.int .i64 (0))] (.t 6) (.t 6)⟩,
    ⟨(some 3), none, .asn (.t 7)⟩]) (
 .seq (
  .seq (
   .reg none [⟨(some 4), none, .asn (.c (.int .i64 (0)))⟩]) (
  .block 0 (
   .loop (some ([0, 3, 4], [0, 3, 4, 1000])) (
    .seq (
     .seq (
      .reg none [⟨(some 8), none, .mv (.t 4)⟩,
        ⟨(some 9), none, .mv (.t 0)⟩,
        ⟨(some 10), none, .len (.t 9)⟩,
        ⟨(some 11), none, .bin .lss (.t 8) (.t 10)⟩]) (
     .cond (.t 11) (
      .skip) (
      .exit 0))) (
    .seq (
     .block 1 (
      .reg none [⟨(some 14), none, .mv (.t 3)⟩,
        ⟨(some 15), none, .mv (.t 4)⟩,
        ⟨(some 16), none, .mv (.t 0)⟩,
        ⟨(some 17), none, .mv (.t 4)⟩,
        ⟨(some 18), none, .iad 1 (.t 16) (.t 17)⟩,
        ⟨(some 19), none, .ld 1 false (.t 18)⟩,
        ⟨(some 20), none, .iad 1 (.t 14) (.t 15)⟩,
        ⟨none, none, .st 1 false (.t 20) (.t 19)⟩])) (
    .reg none [⟨(some 12), none, .mv (.t 4)⟩,
      ⟨(some 13), none, .bin .add (.t 12) (.c (.int .i64 (1)))⟩,
      ⟨(some 4), none, .asn (.t 13)⟩])))))) (
 .seq (
  .reg none [⟨(some 21), none, .mv (.t 3)⟩,
    ⟨(some 2), none, .asn (.t 21)⟩]) (
 .ret))))
def r_laws_toIntS : Nat × List RV := (22, [.t 2])

theorem c_laws_toIntS : cmpS PT PF PA (Try.prog.funcs[14]?) = some (r_laws_toIntS.1, r_laws_toIntS.2, stripK k_laws_toIntS) := by kernel_rfl

theorem h_toIntS (xs : List Int) (hx : wL w0 xs < 2 ^ 31) : CallsF Try.prog 14 [.one (.ar false 0 1 (xs.map rI))] (.one (.ar true 3 1 (xs.map rI))) := by
  refine Prun c_laws_toIntS (by simp [r_laws_toIntS]) (by simp) ?_
  unfold k_laws_toIntS r_laws_toIntS
  rw [wL_w0] at hx
  have hc : ((xs.length : Int) ≤ 4294967296) := by omega
  simp [hc]
  refine awp_loop (fun n σ => ∃ i : Nat, i ≤ xs.length ∧ n = xs.length - i ∧ σ = ⟨[(0, .one (.ar false 0 1 (xs.map rI))), (3, .one (.vw 3 1 3 [] 0 xs.length)), (4, aI i)], [(3, ⟨3, 1, part rI [.int .i64 0] xs i⟩)]⟩) (xs.length) ⟨0, by simp [part_zero]⟩ ?_
  rintro n σ ⟨i, hi, rfl, rfl⟩
  by_cases h : i < xs.length
  · simp [h, part_get h]
    refine ⟨xs.length - (i + 1), by omega, i + 1, by omega, rfl, ?_⟩
    rw [wrapI (by omega) (by omega)]
    have := part_set (r := rI) (z := [.int .i64 0]) h
    simp only [rI] at this
    simp [this]
  · have : i = xs.length := by omega
    subst this
    simp [part_all]
end Go.Am
-- Conf_y
namespace Go.Am
open Go.Proofs
set_option maxHeartbeats 4000000
structure TConf where
  alt : Int
  row : List Int
  deriving DecidableEq, Inhabited
def rConf (a : TConf) : List C := [cI a.alt, .ar true 3 1 (a.row.map rI)]
def sConf (a : TConf) : List C := [cI a.alt, .ar false 0 1 (a.row.map rI)]
def zConf : List C := [cI 0, .ar true 3 1 []]
@[simp] theorem rConf_len (a : TConf) : (rConf a).length = 2 := rfl
@[simp] theorem sConf_len (a : TConf) : (sConf a).length = 2 := rfl
@[simp] theorem shr_rConf (a : TConf) : shrRow (rConf a) = sConf a := by simp [rConf, sConf]
@[simp] theorem shr_sConf (a : TConf) : shrRow (sConf a) = sConf a := by simp [sConf]
@[simp] theorem shrs_rConf (xs : List TConf) : shrRows (xs.map rConf) = xs.map sConf := shrRows_of shr_rConf xs
@[simp] theorem shrs_sConf (xs : List TConf) : shrRows (xs.map sConf) = xs.map sConf := shrRows_of shr_sConf xs
@[simp] theorem noSh_rConf (xs : List TConf) : noShRows (xs.map rConf) = true := noSh_of (fun a => by simp [rConf]) xs
def wConf (a : TConf) : Nat := wL w0 a.row
def lConf (a : TConf) : Prop := lL l0 a.row
def mConf : Mk TConf := ⟨fun a k => ⟨k, mI.mkL a.row (k + 1)⟩, fun a => 1 + mI.nL a.row⟩
@[simp] theorem mConf_wr (a : TConf) (k : Int) : mConf.wr a k = ⟨k, mI.mkL a.row (k + 1)⟩ := rfl
@[simp] theorem mConf_n (a : TConf) : mConf.n a = 1 + mI.nL a.row := rfl
end Go.Am
-- SetAlts
namespace Go.Am
open Go.Proofs
set_option maxHeartbeats 4000000
def insAt (xs : List Int) (x : Int) : Nat := xs.findIdx (fun y => decide (x < y))
def setAdd (xs : List Int) (x : Int) : List Int := if x ∈ xs then xs else xs.take (insAt xs x) ++ [x] ++ xs.drop (insAt xs x)
theorem setAdd_len (xs : List Int) (x : Int) : (setAdd xs x).length ≤ xs.length + 1 := by
  unfold setAdd
  split
  · omega
  · simp; omega
theorem insAt_le (xs : List Int) (x : Int) : insAt xs x ≤ xs.length := List.findIdx_le_length
theorem insAt_no {xs : List Int} {x : Int} {i : Nat} (h : i < xs.length) (hx : xs[i] ≤ x) (hi : i ≤ insAt xs x) : i + 1 ≤ insAt xs x := by
  by_cases c : i = insAt xs x
  · have h2 : insAt xs x < xs.length := by omega
    have := List.findIdx_getElem (p := fun y => decide (x < y)) (xs := xs) (w := h2)
    have h3 : xs[i] = xs[insAt xs x] := by congr 1
    rw [h3] at hx
    have h4 : xs[insAt xs x] = xs[List.findIdx (fun y => decide (x < y)) xs] := rfl
    have := of_decide_eq_true this
    omega
  · omega
theorem insAt_yes {xs : List Int} {x : Int} {i : Nat} (h : i < xs.length) (hx : x < xs[i]) : insAt xs x ≤ i := by
  by_cases c : i < insAt xs x
  · have := List.not_of_lt_findIdx (p := fun y => decide (x < y)) (xs := xs) c
    simp at this
    omega
  · omega
def atFrom (xs : List Int) (x : Int) (m : Nat) : Nat := m + (xs.drop m).findIdx (fun y => decide (x < y))
theorem atFrom_all (xs : List Int) (x : Int) : atFrom xs x xs.length = xs.length := by simp [atFrom]
theorem atFrom_zero (xs : List Int) (x : Int) : atFrom xs x 0 = insAt xs x := by simp [atFrom, insAt]
theorem atFrom_step (xs : List Int) (x : Int) {m : Nat} (h : m < xs.length) : atFrom xs x m = if x < xs[m] then m else atFrom xs x (m + 1) := by
  unfold atFrom
  rw [List.drop_eq_getElem_cons h, List.findIdx_cons]
  by_cases c : x < xs[m]
  · simp [c]
  · simp [c]; omega
theorem atFrom_le (xs : List Int) (x : Int) {m : Nat} (h : m ≤ xs.length) : atFrom xs x m ≤ xs.length := by
  unfold atFrom
  have := List.findIdx_le_length (p := fun y => decide (x < y)) (xs := xs.drop m)
  simp at this; omega
-- 75 loop.example/g00485/spec.SetHas
def k_spec_SetHas : K :=
 .seq (
  .reg none [⟨(some 4), none, .asn (.c (.bool false))⟩]) (
 .seq (
  .seq (
   .reg none [⟨(some 5), none, .asn (.c (.int .i64 (0)))⟩]) (
  .block 0 (
   .loop (some ([0, 1, 5], [0, 1, 5, 1000])) (
    .seq (
     .seq (
      .reg none [⟨(some 6), none, .mv (.t 5)⟩,
        ⟨(some 7), none, .mv (.t 0)⟩,
        ⟨(some 8), none, .len (.t 7)⟩,
        ⟨(some 9), none, .bin .lss (.t 6) (.t 8)⟩]) (
     .cond (.t 9) (
      .skip) (
      .exit 0))) (
    .seq (
     .block 1 (
      .seq (
       .reg none [⟨(some 12), none, .mv (.t 0)⟩,
         ⟨(some 13), none, .mv (.t 5)⟩,
         ⟨(some 14), none, .iad 1 (.t 12) (.t 13)⟩,
         ⟨(some 15), none, .ld 1 false (.t 14)⟩,
         ⟨(some 16), none, .mv (.t 1)⟩,
         ⟨(some 17), none, .bin .eql (.t 15) (.t 16)⟩]) (
      .cond (.t 17) (
       .seq (
        .reg none [⟨(some 4), none, .asn (.c (.bool true))⟩]) (
       .ret)) (
       .skip)))) (
    .reg none [⟨(some 10), none, .mv (.t 5)⟩,
      ⟨(some 11), none, .bin .add (.t 10) (.c (.int .i64 (1)))⟩,
      ⟨(some 5), none, .asn (.t 11)⟩])))))) (
 .seq (
  .reg none [⟨(some 4), none, .asn (.c (.bool false))⟩]) (
 .ret)))
def r_spec_SetHas : Nat × List RV := (18, [.t 4])

theorem c_spec_SetHas : cmpS PT PF PA (Try.prog.funcs[75]?) = some (r_spec_SetHas.1, r_spec_SetHas.2, stripK k_spec_SetHas) := by kernel_rfl

theorem h_spec_SetHas (xs : List Int) (x : Int) (hx : xs.length < 2 ^ 40) : CallsF Try.prog 75 [.one (.ar false 0 1 (xs.map rI)), aI x] (aB (decide (x ∈ xs))) := by
  refine Prun c_spec_SetHas (by simp [r_spec_SetHas]) (by simp) ?_
  unfold k_spec_SetHas r_spec_SetHas
  simp
  refine awp_loop (fun n σ => ∃ i : Nat, i ≤ xs.length ∧ n = xs.length - i ∧ x ∉ xs.take i ∧ σ = ⟨[(0, .one (.ar false 0 1 (xs.map rI))), (1, aI x), (5, aI i)], []⟩) xs.length ⟨0, by simp⟩ ?_
  rintro n σ ⟨i, hi, rfl, ha, rfl⟩
  by_cases h : i < xs.length
  · by_cases c : xs[i] = x
    · have : x ∈ xs := by rw [← c]; exact List.getElem_mem h
      simp [h, c, this]
    · simp [h, c]
      refine ⟨xs.length - (i + 1), by omega, i + 1, by omega, rfl, ?_, ?_⟩
      · rw [List.take_succ_eq_append_getElem h]
        intro hm
        rcases List.mem_append.1 hm with hm | hm
        · exact ha hm
        · exact c (List.mem_singleton.1 hm).symm
      · rw [wrapI (by omega) (by omega)]
        simp
  · have : i = xs.length := by omega
    subst this
    rw [List.take_length] at ha
    simp [ha]
-- 52 loop.example/g00485/spec.SetAdd
def k_spec_SetAdd : K :=
 .seq (
  .reg none [⟨(some 4), none, .asn (.c (.ar true 3 1 []))⟩]) (
 .seq (
  .seq (
   .reg none [⟨(some 8), none, .mv (.t 0)⟩,
     ⟨(some 9), none, .mv (.t 1)⟩,
     ⟨(some 10), none, .call 75 [(.t 8), (.t 9)]⟩]) (
  .cond (.t 10) (
   .seq (
    .reg none [⟨(some 11), none, .bls 3 1 false []⟩,
      ⟨(some 12), none, .mv (.t 0)⟩,
      ⟨(some 13), none, .app 3 1 8 false (.t 11) (.t 12)⟩,
      ⟨(some 4), none, .asn (.t 13)⟩]) (
   .ret)) (
   .skip))) (
 .seq (
  .reg none [⟨(some 14), none, .mv (.t 0)⟩,
    ⟨(some 15), none, .len (.t 14)⟩,
    ⟨(some 5), none, .asn (.t 15)⟩]) (
 .seq (
  .seq (
   .reg none [⟨(some 16), none, .mv (.t 0)⟩,
     ⟨(some 17), none, .len (.t 16)⟩,
     ⟨(some 18), none, .bin .sub (.t 17) (.c (.int .i64 (1)))⟩,
     ⟨(some 6), none, .asn (.t 18)⟩]) (
  .block 0 (
   .loop (some ([0, 1, 5, 6], [0, 1, 5, 6, 1000])) (
    .seq (
     .seq (
      .reg none [⟨(some 19), none, .mv (.t 6)⟩,
        ⟨(some 20), none, .bin .geq (.t 19) (.c (.int .i64 (0)))⟩]) (
     .cond (.t 20) (
      .skip) (
      .exit 0))) (
    .seq (
     .block 1 (
      .seq (
       .reg none [⟨(some 23), none, .mv (.t 0)⟩,
         ⟨(some 24), none, .mv (.t 6)⟩,
         ⟨(some 25), none, .iad 1 (.t 23) (.t 24)⟩,
         ⟨(some 26), none, .ld 1 false (.t 25)⟩,
         ⟨(some 27), none, .mv (.t 1)⟩,
         ⟨(some 28), none, .bin .gtr (.t 26) (.t 27)⟩]) (
      .cond (.t 28) (
       .reg none [⟨(some 29), none, .mv (.t 6)⟩,
         ⟨(some 5), none, .asn (.t 29)⟩]) (
       .skip)))) (
    .reg none [⟨(some 21), none, .mv (.t 6)⟩,
      ⟨(some 22), none, .bin .sub (.t 21) (.c (.int .i64 (1)))⟩,
      ⟨(some 6), none, .asn (.t 22)⟩])))))) (
 .seq (
  .reg none [⟨(some 30), none, .bls 3 1 false []⟩,
    ⟨(some 31), none, .mv (.t 0)⟩,
    ⟨(some 32), none, .mv (.t 5)⟩,
    ⟨(some 33), none, .slc 1 (.t 31) none (some (.t 32))⟩,
    ⟨(some 34), none, .app 3 1 8 false (.t 30) (.t 33)⟩,
    ⟨(some 7), none, .asn (.t 34)⟩]) (
 .seq (
  .reg none [⟨(some 35), none, .mv (.t 7)⟩,
    ⟨(some 36), none, .mv (.t 1)⟩,
    ⟨(some 37), none, .bls 3 1 false [(.t 36)]⟩,
    ⟨(some 38), none, .app 3 1 8 false (.t 35) (.t 37)⟩,
    ⟨(some 7), none, .asn (.t 38)⟩]) (
 .seq (
  .reg none [⟨(some 39), none, .mv (.t 7)⟩,
    ⟨(some 40), none, .mv (.t 0)⟩,
    ⟨(some 41), none, .mv (.t 5)⟩,
    ⟨(some 42), none, .slc 1 (.t 40) (some (.t 41)) none⟩,
    ⟨(some 43), none, .app 3 1 8 false (.t 39) (.t 42)⟩,
    ⟨(some 4), none, .asn (.t 43)⟩]) (
 .ret)))))))
def r_spec_SetAdd : Nat × List RV := (44, [.t 4])

theorem c_spec_SetAdd : cmpS PT PF PA (Try.prog.funcs[52]?) = some (r_spec_SetAdd.1, r_spec_SetAdd.2, stripK k_spec_SetAdd) := by kernel_rfl

theorem h_spec_SetAdd (xs : List Int) (x : Int) (hx : xs.length < 2 ^ 31) : CallsF Try.prog 52 [.one (.ar false 0 1 (xs.map rI)), aI x] (.one (.ar true 3 1 ((setAdd xs x).map rI))) := by
  refine Prun c_spec_SetAdd (by simp [r_spec_SetAdd]) (by simp) ?_
  unfold k_spec_SetAdd r_spec_SetAdd
  simp
  refine callG_F (h_spec_SetHas xs x (by omega)) (by simp) ?_
  have hbN : xs.length ≤ 4294967296 := by omega
  by_cases c : x ∈ xs
  · simp [c, hbN, setAdd]
  simp [c]
  have w0 : IntKind.i64.wrap ((xs.length : Int) - 1) = xs.length - 1 := wrapI (by omega) (by omega)
  refine awp_loop (fun n σ => ∃ m : Nat, m ≤ xs.length ∧ n = m ∧ σ = ⟨[(0, .one (.ar false 0 1 (xs.map rI))), (1, aI x), (5, aI (atFrom xs x m)), (6, aI ((m : Int) - 1))], []⟩) xs.length ⟨xs.length, by simp [atFrom_all, w0]⟩ ?_
  rintro m σ ⟨n, hm, rfl, rfl⟩
  by_cases h : m = 0
  · subst h
    have hle := insAt_le xs x
    rw [show atFrom xs x 0 = insAt xs x from atFrom_zero xs x]
    simp only [setAdd, if_neg c]
    have hb1 : insAt xs x ≤ 4294967296 := by omega
    have hb2 : insAt xs x + 1 ≤ 4294967296 := by omega
    have hb3 : insAt xs x + 1 + (xs.length - insAt xs x) ≤ 4294967296 := by omega
    generalize insAt xs x = q at *
    simp [hle, hb1, hb2, hb3, Nat.min_eq_left hle]
    rw [List.take_take, Nat.min_self, List.take_of_length_le (by simp; omega), List.take_of_length_le (by simp; omega)]
    simp [rI]
  · obtain ⟨k, rfl⟩ : ∃ k, m = k + 1 := ⟨m - 1, by omega⟩
    have hk : k < xs.length := by omega
    have w1 : IntKind.i64.wrap ((k : Int) - 1) = k - 1 := wrapI (by omega) (by omega)
    have hst := atFrom_step xs x hk
    by_cases d : x < xs[k]
    · rw [if_pos d] at hst
      simp [hk, d]
      refine ⟨k, by omega, k, by omega, rfl, ?_⟩
      simp [w1, hst]
    · rw [if_neg d] at hst
      simp [hk, d]
      refine ⟨k, by omega, k, by omega, rfl, ?_⟩
      simp [w1, hst]
-- 54 loop.example/g00485/impl.addTo
def k_impl_addTo : K :=
 .seq (
  .reg none [⟨(some 4), none, .asn (.c (.ar true 3 1 []))⟩]) (
 .seq (
  .seq (
   .reg none [⟨(some 6), none, .mv (.t 0)⟩,
     ⟨(some 7), none, .mv (.t 1)⟩,
     ⟨(some 8), none, .call 76 [(.t 6), (.t 7)]⟩]) (
  .cond (.t 8) (
   .seq (
    .reg none [⟨(some 9), none, .mv (.t 0)⟩,
      ⟨(some 4), none, .asn (.t 9)⟩]) (
   .ret)) (
   .skip))) (
 .seq (
  .reg none [⟨(some 5), none, .asn (.c (.int .i64 (0)))⟩]) (
 .seq (
  .block 0 (
   .loop (some ([0, 1, 5], [0, 1, 5, 1000])) (
    .seq (
     .seq (
      .reg none [⟨(some 10), none, .mv (.t 5)⟩,
        ⟨(some 11), none, .mv (.t 0)⟩,
        ⟨(some 12), none, .len (.t 11)⟩,
        ⟨(some 13), none, .bin .lss (.t 10) (.t 12)⟩,
        ⟨(some 14), none, .mv (.t 13)⟩,
        ⟨(some 15), (some (14, true)), .mv (.t 0)⟩,
        ⟨(some 16), (some (14, true)), .mv (.t 5)⟩,
        ⟨(some 17), (some (14, true)), .iad 1 (.t 15) (.t 16)⟩,
        ⟨(some 18), (some (14, true)), .ld 1 false (.t 17)⟩,
        ⟨(some 19), (some (14, true)), .mv (.t 1)⟩,
        ⟨(some 20), (some (14, true)), .bin .leq (.t 18) (.t 19)⟩,
        ⟨(some 21), none, .pick (.t 14) (.t 20) (.c (.bool false))⟩]) (
     .cond (.t 21) (
      .skip) (
      .exit 0))) (
    .block 1 (
     .reg none [⟨(some 22), none, .mv (.t 5)⟩,
       ⟨(some 23), none, .bin .add (.t 22) (.c (.int .i64 (1)))⟩,
       ⟨(some 5), none, .asn (.t 23)⟩]))))) (
 .seq (
  .reg none [⟨(some 24), none, .mv (.t 0)⟩,
    ⟨(some 25), none, .mv (.t 5)⟩,
    ⟨(some 26), none, .mv (.t 1)⟩,
    ⟨(some 27), none, .bls 3 1 false [(.t 26)]⟩,
    ⟨(some 28), none, .callo 77 3 [(.t 24), (.t 25), (.t 27)]⟩,
    ⟨(some 4), none, .asn (.t 28)⟩]) (
 .ret)))))
def r_impl_addTo : Nat × List RV := (29, [.t 4])

theorem c_impl_addTo : cmpS PT PF PA (Try.prog.funcs[54]?) = some (r_impl_addTo.1, r_impl_addTo.2, stripK k_impl_addTo) := by kernel_rfl

theorem h_addTo (xs : List Int) (x : Int) (hx : xs.length < 2 ^ 31) : CallsF Try.prog 54 [.one (.ar true 3 1 (xs.map rI)), aI x] (.one (.ar true 3 1 ((setAdd xs x).map rI))) := by
  refine Prun c_impl_addTo (by simp [r_impl_addTo]) (by simp) ?_
  unfold k_impl_addTo r_impl_addTo
  simp
  refine callG_F (h_slicesContains xs x (by omega)) (by simp) ?_
  have hbN : xs.length ≤ 4294967296 := by omega
  by_cases c : x ∈ xs
  · simp [c, setAdd]
  simp [c]
  have hle := insAt_le xs x
  have hct := @insAt_no xs x
  have hck := @insAt_yes xs x
  rw [show setAdd xs x = xs.take (insAt xs x) ++ [x] ++ xs.drop (insAt xs x) by simp only [setAdd, if_neg c]]
  generalize insAt xs x = q at *
  refine awp_loop (fun n σ => ∃ i : Nat, i ≤ q ∧ n = xs.length - i ∧ σ = ⟨[(0, .one (.vw 3 1 0 [] 0 xs.length)), (1, aI x), (5, aI i)], [(0, ⟨3, 1, xs.map rI⟩)]⟩) xs.length ⟨0, by simp⟩ ?_
  rintro n σ ⟨i, hi, rfl, rfl⟩
  have w1 : IntKind.i64.wrap ((i : Int) + 1) = i + 1 := wrapI (by omega) (by omega)
  by_cases h : i < xs.length
  · by_cases d : xs[i] ≤ x
    · have h1 := hct h d hi
      simp [h, d]
      refine ⟨xs.length - (i + 1), by omega, i + 1, by omega, rfl, ?_⟩
      simp [w1]
    · have h1 := hck h (by omega)
      have h2 : i = q := by omega
      subst h2
      have hins := h_insInt xs x i (by omega) (by omega)
      simp [h, d]
      refine callOG_F hins (by simp) ?_
      simp
      exact List.take_of_length_le (by simp)
  · have h2 : i = q := by omega
    have h3 : i = xs.length := by omega
    subst h2
    have hins := h_insInt xs x i (by omega) (by omega)
    simp [h]
    refine callOG_F hins (by simp) ?_
    simp
    exact List.take_of_length_le (by simp)
def setAlts (xs : List TConf) : List Int := xs.foldl (fun l c => setAdd l c.1) []
def setAltsTo (xs : List TConf) (i : Nat) : List Int := setAlts (xs.take i)
theorem setAltsTo_step {xs : List TConf} {i : Nat} (h : i < xs.length) : setAltsTo xs (i + 1) = setAdd (setAltsTo xs i) xs[i].1 := by
  unfold setAltsTo setAlts
  rw [List.take_succ_eq_append_getElem h, List.foldl_append]
  rfl
theorem setAltsTo_all (xs : List TConf) : setAltsTo xs xs.length = setAlts xs := by rw [setAltsTo, List.take_length]
theorem setAltsTo_len (xs : List TConf) : ∀ {i : Nat}, i ≤ xs.length → (setAltsTo xs i).length ≤ i
  | 0, _ => by simp [setAltsTo, setAlts]
  | i + 1, h => by
    rw [setAltsTo_step (by omega)]
    have h1 := setAltsTo_len xs (i := i) (by omega)
    have h2 := setAdd_len (setAltsTo xs i) (xs[i]'(by omega)).1
    omega
-- 28 loop.example/g00485/spec.SetAlts
def k_spec_SetAlts : K :=
 .seq (
  .reg none [⟨(some 2), none, .asn (.c (.ar true 3 1 []))⟩]) (
 .seq (
  .reg none [⟨(some 5), none, .bls 3 1 false []⟩,
    ⟨(some 3), none, .asn (.t 5)⟩]) (
 .seq (
  .seq (
   .reg none [⟨(some 4), none, .asn (.c (.int .i64 (0)))⟩]) (
  .block 0 (
   .loop (some ([0, 3, 4], [0, 3, 4, 1000])) (
    .seq (
     .seq (
      .reg none [⟨(some 6), none, .mv (.t 4)⟩,
        ⟨(some 7), none, .mv (.t 0)⟩,
        ⟨(some 8), none, .len (.t 7)⟩,
        ⟨(some 9), none, .bin .lss (.t 6) (.t 8)⟩]) (
     .cond (.t 9) (
      .skip) (
      .exit 0))) (
    .seq (
     .block 1 (
      .reg none [⟨(some 12), none, .mv (.t 3)⟩,
        ⟨(some 13), none, .mv (.t 0)⟩,
        ⟨(some 14), none, .mv (.t 4)⟩,
        ⟨(some 15), none, .iad 2 (.t 13) (.t 14)⟩,
        ⟨(some 16), none, .fad 0 (.t 15)⟩,
        ⟨(some 17), none, .ld 1 false (.t 16)⟩,
        ⟨(some 18), none, .call 52 [(.t 12), (.t 17)]⟩,
        ⟨(some 3), none, .asn (.t 18)⟩])) (
    .reg none [⟨(some 10), none, .mv (.t 4)⟩,
      ⟨(some 11), none, .bin .add (.t 10) (.c (.int .i64 (1)))⟩,
      ⟨(some 4), none, .asn (.t 11)⟩])))))) (
 .seq (
  .reg none [⟨(some 19), none, .mv (.t 3)⟩,
    ⟨(some 2), none, .asn (.t 19)⟩]) (
 .ret))))
def r_spec_SetAlts : Nat × List RV := (20, [.t 2])

theorem c_spec_SetAlts : cmpS PT PF PA (Try.prog.funcs[28]?) = some (r_spec_SetAlts.1, r_spec_SetAlts.2, stripK k_spec_SetAlts) := by kernel_rfl

theorem h_spec_SetAlts (xs : List TConf) (hx : xs.length < 2 ^ 30) : CallsF Try.prog 28 [.one (.ar false 0 2 (xs.map sConf))] (.one (.ar true 3 1 ((setAlts xs).map rI))) := by
  refine Prun c_spec_SetAlts (by simp [r_spec_SetAlts]) (by simp) ?_
  unfold k_spec_SetAlts r_spec_SetAlts
  simp
  refine awp_loop (fun n σ => ∃ i : Nat, i ≤ xs.length ∧ n = xs.length - i ∧ σ = ⟨[(0, .one (.ar false 0 2 (xs.map sConf))), (3, .one (.vw 3 1 3 [] 0 (setAltsTo xs i).length)), (4, aI i)], [(3, ⟨3, 1, (setAltsTo xs i).map rI⟩)]⟩) xs.length ⟨0, by simp [setAltsTo, setAlts]⟩ ?_
  rintro n σ ⟨i, hi, rfl, rfl⟩
  have w1 : IntKind.i64.wrap ((i : Int) + 1) = i + 1 := wrapI (by omega) (by omega)
  have hl := setAltsTo_len xs hi
  by_cases h : i < xs.length
  · rcases ee : xs[i] with ⟨e1, e2⟩
    have hst := setAltsTo_step h
    rw [ee] at hst
    have hadd := h_spec_SetAdd (setAltsTo xs i) e1 (by omega)
    simp [h, ee, sConf]
    refine callG_F hadd (by simp) ?_
    simp
    refine ⟨xs.length - (i + 1), by omega, i + 1, by omega, rfl, ?_⟩
    simp [w1, hst]
  · have : i = xs.length := by omega
    subst this
    simp [setAltsTo_all]
-- 30 loop.example/g00485/impl.SetAlts
def k_impl_SetAlts : K :=
 .seq (
  .reg none [⟨(some 2), none, .asn (.c (.ar true 3 1 []))⟩]) (
 .seq (
  .reg none [⟨(some 3), none, .asn (.c (.ar true 3 1 []))⟩]) (
 .seq (
  .seq (
   .reg none [⟨(some 6), none, .mv (.t 0)⟩,
     ⟨(some 7), none, .len (.t 6)⟩,
     ⟨(some 8), none, .mv (.c (.int .i64 (0)))⟩]) (
  .block 0 (
   .loop (some ([3, 6, 7, 8], [0, 3, 1000])) (
    .seq (
     .reg none [⟨(some 9), none, .bin .lss (.t 8) (.t 7)⟩]) (
    .seq (
     .cond (.t 9) (
      .skip) (
      .exit 0)) (
    .seq (
     .block 1 (
      .seq (
       .reg none [⟨(some 10), none, .iad 2 (.t 6) (.t 8)⟩,
         ⟨(some 11), none, .ld 2 true (.t 10)⟩,
         ⟨(some 5), none, .alc 85 2 [(.int .i64 (0)), (.ar true 3 1 [])]⟩,
         ⟨none, none, .st 2 false (.t 5) (.t 11)⟩]) (
      .reg none [⟨(some 12), none, .mv (.t 3)⟩,
        ⟨(some 13), none, .fad 0 (.t 5)⟩,
        ⟨(some 14), none, .ld 1 false (.t 13)⟩,
        ⟨(some 15), none, .callo 54 1 [(.t 12), (.t 14)]⟩,
        ⟨(some 3), none, .asn (.t 15)⟩]))) (
    .reg none [⟨(some 16), none, .bin .add (.t 8) (.c (.int .i64 (1)))⟩,
      ⟨(some 8), none, .mv (.t 16)⟩]))))))) (
 .seq (
  .reg none [⟨(some 17), none, .mv (.t 3)⟩,
    ⟨(some 2), none, .asn (.t 17)⟩]) (
 .ret))))
def r_impl_SetAlts : Nat × List RV := (18, [.t 2])

theorem c_impl_SetAlts : cmpS PT PF PA (Try.prog.funcs[30]?) = some (r_impl_SetAlts.1, r_impl_SetAlts.2, stripK k_impl_SetAlts) := by kernel_rfl

theorem h_impl_SetAlts (xs : List TConf) (hx : xs.length < 2 ^ 30) : CallsF Try.prog 30 [.one (.ar false 0 2 (xs.map sConf))] (.one (.ar true 3 1 ((setAlts xs).map rI))) := by
  refine Prun c_impl_SetAlts (by simp [r_impl_SetAlts]) (by simp) ?_
  unfold k_impl_SetAlts r_impl_SetAlts
  simp
  refine awp_loop (fun n σ => ∃ i : Nat, i ≤ xs.length ∧ n = xs.length - i ∧ σ = ⟨[(3, .one (.vw 3 1 3 [] 0 (setAltsTo xs i).length)), (6, .one (.ar false 0 2 (xs.map sConf))), (7, aI xs.length), (8, aI i)], [(3, ⟨3, 1, (setAltsTo xs i).map rI⟩)]⟩) xs.length ⟨0, by simp [setAltsTo, setAlts]⟩ ?_
  rintro n σ ⟨i, hi, rfl, rfl⟩
  have w1 : IntKind.i64.wrap ((i : Int) + 1) = i + 1 := wrapI (by omega) (by omega)
  have hl := setAltsTo_len xs hi
  by_cases h : i < xs.length
  · rcases ee : xs[i] with ⟨e1, e2⟩
    have hst := setAltsTo_step h
    rw [ee] at hst
    have hadd := h_addTo (setAltsTo xs i) e1 (by omega)
    simp [h, ee, sConf]
    refine callOG_F hadd (by simp) ?_
    simp
    refine ⟨xs.length - (i + 1), by omega, i + 1, by omega, rfl, ?_⟩
    simp [w1, hst]
  · have : i = xs.length := by omega
    subst this
    simp [setAltsTo_all]
end Go.Am
-- Conf_to1
namespace Go.Am
open Go.Proofs
set_option maxHeartbeats 4000000
-- 53 loop.example/g00485/laws.toConf
def k_laws_toConf : K :=
 .seq (
  .reg none [⟨(some 1), none, .box 83 2 (.t 0)⟩,
    ⟨(some 2), none, .alc 85 2 [(.int .i64 (0)), (.ar true 3 1 [])]⟩]) (
 .seq (
  .reg none [⟨(some 3), none, .alc 85 2 [(.int .i64 (0)), (.ar true 3 1 [])]⟩]) (
 .seq (
  .reg none [⟨(some 4), none, .fad 0 (.t 1)⟩,
    ⟨(some 5), none, .ld 1 false (.t 4)⟩,
    ⟨(some 6), none, .fad 0 (.t 3)⟩,
    ⟨none, none, .st 1 false (.t 6) (.t 5)⟩]) (
 .seq (
  .reg none [⟨(some 7), none, .fad 1 (.t 1)⟩,
    ⟨(some 8), none, .ld 1 false (.t 7)⟩,
    ⟨(some 9), none, .call 14 [(.t 8)]⟩,
    ⟨(some 10), none, .fad 1 (.t 3)⟩,
    ⟨none, none, .st 1 false (.t 10) (.t 9)⟩]) (
 .seq (
  .reg none [⟨(some 11), none, .ld 2 true (.t 3)⟩,
    ⟨none, none, .st 2 false (.t 2) (.t 11)⟩]) (
 .ret)))))
def r_laws_toConf : Nat × List RV := (12, [.c 2 2 true])

theorem c_laws_toConf : cmpS PT PF PA (Try.prog.funcs[53]?) = some (r_laws_toConf.1, r_laws_toConf.2, stripK k_laws_toConf) := by kernel_rfl

theorem h_toConf (a : TConf) (ha : wConf a < 2 ^ 31) : CallsF Try.prog 53 [.agg (sConf a)] (.agg (rConf a)) := by
  refine Prun c_laws_toConf (by simp [r_laws_toConf]) (by simp) ?_
  unfold k_laws_toConf r_laws_toConf
  simp only [wConf] at ha
  simp [sConf]
  refine callG_F (h_toIntS a.row (by omega)) (by simp) ?_
  simp [rConf]
end Go.Am
-- Conf_to
namespace Go.Am
open Go.Proofs
set_option maxHeartbeats 4000000
-- 29 loop.example/g00485/laws.toConfS
def k_laws_toConfS : K :=
 .seq (
  .reg none [⟨(some 2), none, .asn (.c (.ar true 85 2 []))⟩]) (
 .seq (
  .reg none [⟨(some 5), none, .mv (.t 0)⟩,
    ⟨(some 6), none, .len (.t 5)⟩,
    ⟨(some 7), none, .mks 85 2 32 [(.int .i64 (0)), (.ar true 3 1 [])] (.t 6) (.t 6)⟩,
    ⟨(some 3), none, .asn (.t 7)⟩]) (
 .seq (
  .seq (
   .reg none [⟨(some 4), none, .asn (.c (.int .i64 (0)))⟩]) (
  .block 0 (
   .loop (some ([0, 3, 4], [0, 3, 4, 1000])) (
    .seq (
     .seq (
      .reg none [⟨(some 8), none, .mv (.t 4)⟩,
        ⟨(some 9), none, .mv (.t 0)⟩,
        ⟨(some 10), none, .len (.t 9)⟩,
        ⟨(some 11), none, .bin .lss (.t 8) (.t 10)⟩]) (
     .cond (.t 11) (
      .skip) (
      .exit 0))) (
    .seq (
     .block 1 (
      .reg none [⟨(some 14), none, .mv (.t 3)⟩,
        ⟨(some 15), none, .mv (.t 4)⟩,
        ⟨(some 16), none, .mv (.t 0)⟩,
        ⟨(some 17), none, .mv (.t 4)⟩,
        ⟨(some 18), none, .iad 2 (.t 16) (.t 17)⟩,
        ⟨(some 19), none, .ld 2 true (.t 18)⟩,
        ⟨(some 20), none, .call 53 [(.t 19)]⟩,
        ⟨(some 21), none, .iad 2 (.t 14) (.t 15)⟩,
        ⟨none, none, .st 2 false (.t 21) (.t 20)⟩])) (
    .reg none [⟨(some 12), none, .mv (.t 4)⟩,
      ⟨(some 13), none, .bin .add (.t 12) (.c (.int .i64 (1)))⟩,
      ⟨(some 4), none, .asn (.t 13)⟩])))))) (
 .seq (
  .reg none [⟨(some 22), none, .mv (.t 3)⟩,
    ⟨(some 2), none, .asn (.t 22)⟩]) (
 .ret))))
def r_laws_toConfS : Nat × List RV := (23, [.t 2])

theorem c_laws_toConfS : cmpS PT PF PA (Try.prog.funcs[29]?) = some (r_laws_toConfS.1, r_laws_toConfS.2, stripK k_laws_toConfS) := by kernel_rfl

theorem h_toConfS (xs : List TConf) (hx : wL wConf xs < 2 ^ 31) : CallsF Try.prog 29 [.one (.ar false 0 2 (xs.map sConf))] (.one (.ar true 85 2 (xs.map rConf))) := by
  refine Prun c_laws_toConfS (by simp [r_laws_toConfS]) (by simp) ?_
  unfold k_laws_toConfS r_laws_toConfS
  have hlen := wL_len wConf xs
  have hc : ((xs.length : Int) ≤ 4294967296) := by omega
  simp [hc]
  refine awp_loop (fun n σ => ∃ i : Nat, i ≤ xs.length ∧ n = xs.length - i ∧ σ = ⟨[(0, .one (.ar false 0 2 (xs.map sConf))), (3, .one (.vw 85 2 3 [] 0 xs.length)), (4, aI i)], [(3, ⟨85, 2, part rConf zConf xs i⟩)]⟩) (xs.length) ⟨0, by simp [part_zero, zConf]⟩ ?_
  rintro n σ ⟨i, hi, rfl, rfl⟩
  by_cases h : i < xs.length
  · have hw := wL_get wConf xs i h
    have := part_set (r := rConf) (z := zConf) h
    simp [h, sConf]
    refine callG_F (h_toConf xs[i] (by omega)) (by simp) ?_
    simp [h, part_get h, rConf, zConf]
    refine ⟨xs.length - (i + 1), by omega, i + 1, by omega, rfl, ?_⟩
    rw [wrapI (by omega) (by omega)]
    simp only [rConf, zConf] at this
    simp [rConf, zConf, this]
  · have : i = xs.length := by omega
    subst this
    simp [part_all]
end Go.Am
-- Conf_eq1
namespace Go.Am
open Go.Proofs
set_option maxHeartbeats 4000000
-- 55 loop.example/g00485/laws.eqConf
def k_laws_eqConf : K :=
 .seq (
  .reg none [⟨(some 2), none, .box 85 2 (.t 0)⟩,
    ⟨(some 3), none, .box 85 2 (.t 1)⟩,
    ⟨(some 4), none, .asn (.c (.bool false))⟩]) (
 .seq (
  .seq (
   .reg none [⟨(some 5), none, .fad 0 (.t 2)⟩,
     ⟨(some 6), none, .ld 1 false (.t 5)⟩,
     ⟨(some 7), none, .fad 0 (.t 3)⟩,
     ⟨(some 8), none, .ld 1 false (.t 7)⟩,
     ⟨(some 9), none, .bin .neq (.t 6) (.t 8)⟩]) (
  .cond (.t 9) (
   .seq (
    .reg none [⟨(some 4), none, .asn (.c (.bool false))⟩]) (
   .ret)) (
   .skip))) (
 .seq (
  .seq (
   .reg none [⟨(some 10), none, .fad 1 (.t 2)⟩,
     ⟨(some 11), none, .ld 1 false (.t 10)⟩,
     ⟨(some 12), none, .fad 1 (.t 3)⟩,
     ⟨(some 13), none, .ld 1 false (.t 12)⟩,
     ⟨(some 14), none, .call 17 [(.t 11), (.t 13)]⟩,
     ⟨(some 15), none, .not (.t 14)⟩]) (
  .cond (.t 15) (
   .seq (
    .reg none [⟨(some 4), none, .asn (.c (.bool false))⟩]) (
   .ret)) (
   .skip))) (
 .seq (
  .reg none [⟨(some 4), none, .asn (.c (.bool true))⟩]) (
 .ret))))
def r_laws_eqConf : Nat × List RV := (16, [.t 4])

theorem c_laws_eqConf : cmpS PT PF PA (Try.prog.funcs[55]?) = some (r_laws_eqConf.1, r_laws_eqConf.2, stripK k_laws_eqConf) := by kernel_rfl

theorem h_eqConf (a : TConf) (ha : wConf a < 2 ^ 40) : CallsF Try.prog 55 [.agg (sConf a), .agg (sConf a)] (aB true) := by
  refine Prun c_laws_eqConf (by simp [r_laws_eqConf]) (by simp) ?_
  unfold k_laws_eqConf r_laws_eqConf
  simp only [wConf] at ha
  simp [sConf]
  refine callG_F (h_eqIntS a.row (by omega)) (by simp) ?_
  simp
end Go.Am
-- Conf_eq
namespace Go.Am
open Go.Proofs
set_option maxHeartbeats 4000000
-- 31 loop.example/g00485/laws.eqConfS
def k_laws_eqConfS : K :=
 .seq (
  .reg none [⟨(some 4), none, .asn (.c (.bool false))⟩]) (
 .seq (
  .seq (
   .reg none [⟨(some 6), none, .mv (.t 0)⟩,
     ⟨(some 7), none, .len (.t 6)⟩,
     ⟨(some 8), none, .mv (.t 1)⟩,
     ⟨(some 9), none, .len (.t 8)⟩,
     ⟨(some 10), none, .bin .neq (.t 7) (.t 9)⟩]) (
  .cond (.t 10) (
   .seq (
    .reg none [⟨(some 4), none, .asn (.c (.bool false))⟩]) (
   .ret)) (
   .skip))) (
 .seq (
  .seq (
   .reg none [⟨(some 5), none, .asn (.c (.int .i64 (0)))⟩]) (
  .block 0 (
   .loop (some ([0, 1, 5], [0, 1, 5, 1000])) (
    .seq (
     .seq (
      .reg none [⟨(some 11), none, .mv (.t 5)⟩,
        ⟨(some 12), none, .mv (.t 0)⟩,
        ⟨(some 13), none, .len (.t 12)⟩,
        ⟨(some 14), none, .bin .lss (.t 11) (.t 13)⟩]) (
     .cond (.t 14) (
      .skip) (
      .exit 0))) (
    .seq (
     .block 1 (
      .seq (
       .drw none 10 [⟨(some 17), none, .mv (.t 0)⟩,
         ⟨(some 18), none, .mv (.t 5)⟩,
         ⟨(some 19), none, .iad 2 (.t 17) (.t 18)⟩,
         ⟨(some 20), none, .ld 2 true (.t 19)⟩,
         ⟨(some 21), none, .mv (.t 1)⟩,
         ⟨(some 22), none, .mv (.t 5)⟩,
         ⟨(some 23), none, .iad 2 (.t 21) (.t 22)⟩,
         ⟨(some 24), none, .ld 2 true (.t 23)⟩,
         ⟨(some 25), none, .call 55 [(.t 20), (.t 24)]⟩,
         ⟨(some 26), none, .not (.t 25)⟩]) (
      .cond (.t 26) (
       .seq (
        .reg none [⟨(some 4), none, .asn (.c (.bool false))⟩]) (
       .ret)) (
       .skip)))) (
    .reg none [⟨(some 15), none, .mv (.t 5)⟩,
      ⟨(some 16), none, .bin .add (.t 15) (.c (.int .i64 (1)))⟩,
      ⟨(some 5), none, .asn (.t 16)⟩])))))) (
 .seq (
  .reg none [⟨(some 4), none, .asn (.c (.bool true))⟩]) (
 .ret))))
def r_laws_eqConfS : Nat × List RV := (27, [.t 4])

theorem c_laws_eqConfS : cmpS PT PF PA (Try.prog.funcs[31]?) = some (r_laws_eqConfS.1, r_laws_eqConfS.2, stripK k_laws_eqConfS) := by kernel_rfl

theorem h_eqConfS (xs : List TConf) (hx : wL wConf xs < 2 ^ 40) : CallsF Try.prog 31 [.one (.ar false 0 2 (xs.map sConf)), .one (.ar false 0 2 (xs.map sConf))] (aB true) := by
  refine Prun c_laws_eqConfS (by simp [r_laws_eqConfS]) (by simp) ?_
  unfold k_laws_eqConfS r_laws_eqConfS
  have hlen := wL_len wConf xs
  simp
  refine awp_loop (fun n σ => ∃ i : Nat, i ≤ xs.length ∧ n = xs.length - i ∧ σ = ⟨[(0, .one (.ar false 0 2 (xs.map sConf))), (1, .one (.ar false 0 2 (xs.map sConf))), (5, aI i)], []⟩) (xs.length) ⟨0, by simp⟩ ?_
  rintro n σ ⟨i, hi, rfl, rfl⟩
  by_cases h : i < xs.length
  · have hw := wL_get wConf xs i h
    simp [h, sConf]
    refine ⟨_, by simp, h_eqConf xs[i] (by omega), ?_⟩
    simp
    refine ⟨xs.length - (i + 1), by omega, i + 1, by omega, rfl, ?_⟩
    rw [wrapI (by omega) (by omega)]
    simp
  · simp [h]
end Go.Am
-- intm
namespace Go.Am
open Go.Proofs
set_option maxHeartbeats 4000000
-- 74 loop.example/g00485/laws.szIntS
def k_laws_szIntS : K :=
 .seq (
  .reg none [⟨(some 4), none, .asn (.c (.int .i64 (0)))⟩]) (
 .seq (
  .reg none [⟨(some 5), none, .mv (.t 1)⟩,
    ⟨(some 6), none, .mv (.t 0)⟩,
    ⟨(some 7), none, .len (.t 6)⟩,
    ⟨(some 8), none, .bin .sub (.t 5) (.t 7)⟩,
    ⟨(some 1), none, .asn (.t 8)⟩]) (
 .seq (
  .seq (
   .reg none [⟨(some 9), none, .mv (.t 1)⟩,
     ⟨(some 10), none, .bin .lss (.t 9) (.c (.int .i64 (0)))⟩]) (
  .cond (.t 10) (
   .seq (
    .reg none [⟨(some 4), none, .asn (.c (.int .i64 (-1)))⟩]) (
   .ret)) (
   .skip))) (
 .seq (
  .reg none [⟨(some 11), none, .mv (.t 1)⟩,
    ⟨(some 4), none, .asn (.t 11)⟩]) (
 .ret))))
def r_laws_szIntS : Nat × List RV := (12, [.t 4])

theorem c_laws_szIntS : cmpS PT PF PA (Try.prog.funcs[74]?) = some (r_laws_szIntS.1, r_laws_szIntS.2, stripK k_laws_szIntS) := by kernel_rfl

theorem h_szIntS (xs : List Int) (left : Int) (h : lL l0 xs) (h2 : 0 ≤ left) (h3 : left < 2 ^ 40) : CallsF Try.prog 74 [.one (.ar false 0 1 (xs.map rI)), aI left] (aI (lft left (wL w0 xs))) := by
  refine Prun c_laws_szIntS (by simp [r_laws_szIntS]) (by simp) ?_
  unfold k_laws_szIntS r_laws_szIntS
  have h := h.1
  rw [wL_w0, lft]
  have hw : IntKind.i64.wrap (left - xs.length) = left - xs.length := wrapI (by omega) (by omega)
  by_cases h : left - xs.length < 0
  · simp [hw, h]
  · simp [hw, h]
end Go.Am
-- Conf_sz1
namespace Go.Am
open Go.Proofs
set_option maxHeartbeats 4000000
-- 51 loop.example/g00485/laws.szConf
def k_laws_szConf : K :=
 .seq (
  .reg none [⟨(some 2), none, .box 83 2 (.t 0)⟩,
    ⟨(some 4), none, .asn (.c (.int .i64 (0)))⟩]) (
 .seq (
  .reg none [⟨(some 5), none, .fad 1 (.t 2)⟩,
    ⟨(some 6), none, .ld 1 false (.t 5)⟩,
    ⟨(some 7), none, .mv (.t 1)⟩,
    ⟨(some 8), none, .call 74 [(.t 6), (.t 7)]⟩,
    ⟨(some 1), none, .asn (.t 8)⟩]) (
 .seq (
  .seq (
   .reg none [⟨(some 9), none, .mv (.t 1)⟩,
     ⟨(some 10), none, .bin .lss (.t 9) (.c (.int .i64 (0)))⟩]) (
  .cond (.t 10) (
   .seq (
    .reg none [⟨(some 4), none, .asn (.c (.int .i64 (-1)))⟩]) (
   .ret)) (
   .skip))) (
 .seq (
  .reg none [⟨(some 11), none, .mv (.t 1)⟩,
    ⟨(some 4), none, .asn (.t 11)⟩]) (
 .ret))))
def r_laws_szConf : Nat × List RV := (12, [.t 4])

theorem c_laws_szConf : cmpS PT PF PA (Try.prog.funcs[51]?) = some (r_laws_szConf.1, r_laws_szConf.2, stripK k_laws_szConf) := by kernel_rfl

theorem h_szConf (a : TConf) (left : Int) (h : lConf a) (h2 : 0 ≤ left) (h3 : left < 2 ^ 40) : CallsF Try.prog 51 [.agg (sConf a), aI left] (aI (lft left (wConf a))) := by
  refine Prun c_laws_szConf (by simp [r_laws_szConf]) (by simp) ?_
  unfold k_laws_szConf r_laws_szConf
  simp only [lConf] at h
  simp only [wConf]
  have hl0 := h
  simp [sConf]
  refine callG_F (h_szIntS a.row (left) hl0 (by omega) (by omega)) (by simp) ?_
  by_cases g0 : left < (wL w0 a.row : Int)
  case pos => simp only [lft_neg g0]; simp; try rw [lft_neg (by omega)]
  simp only [lft_pos (show (wL w0 a.row : Int) ≤ left by omega)]
  have n0 : ¬ left - (wL w0 a.row : Int) < 0 := by omega
  simp [n0]
  try rw [lft_pos (by omega)]
  try omega
end Go.Am
-- Conf_sz
namespace Go.Am
open Go.Proofs
set_option maxHeartbeats 4000000
-- 27 loop.example/g00485/laws.szConfS
def k_laws_szConfS : K :=
 .seq (
  .reg none [⟨(some 4), none, .asn (.c (.int .i64 (0)))⟩]) (
 .seq (
  .reg none [⟨(some 6), none, .mv (.t 1)⟩,
    ⟨(some 7), none, .mv (.t 0)⟩,
    ⟨(some 8), none, .len (.t 7)⟩,
    ⟨(some 9), none, .bin .sub (.t 6) (.t 8)⟩,
    ⟨(some 1), none, .asn (.t 9)⟩]) (
 .seq (
  .seq (
   .reg none [⟨(some 10), none, .mv (.t 1)⟩,
     ⟨(some 11), none, .bin .lss (.t 10) (.c (.int .i64 (0)))⟩]) (
  .cond (.t 11) (
   .seq (
    .reg none [⟨(some 4), none, .asn (.c (.int .i64 (-1)))⟩]) (
   .ret)) (
   .skip))) (
 .seq (
  .seq (
   .reg none [⟨(some 5), none, .asn (.c (.int .i64 (0)))⟩]) (
  .block 0 (
   .loop (some ([0, 1, 5], [0, 1, 5, 1000])) (
    .seq (
     .seq (
      .reg none [⟨(some 12), none, .mv (.t 5)⟩,
        ⟨(some 13), none, .mv (.t 0)⟩,
        ⟨(some 14), none, .len (.t 13)⟩,
        ⟨(some 15), none, .bin .lss (.t 12) (.t 14)⟩]) (
     .cond (.t 15) (
      .skip) (
      .exit 0))) (
    .seq (
     .block 1 (
      .seq (
       .reg none [⟨(some 18), none, .mv (.t 0)⟩,
         ⟨(some 19), none, .mv (.t 5)⟩,
         ⟨(some 20), none, .iad 2 (.t 18) (.t 19)⟩,
         ⟨(some 21), none, .ld 2 true (.t 20)⟩,
         ⟨(some 22), none, .mv (.t 1)⟩,
         ⟨(some 23), none, .call 51 [(.t 21), (.t 22)]⟩,
         ⟨(some 1), none, .asn (.t 23)⟩]) (
      .seq (
       .reg none [⟨(some 24), none, .mv (.t 1)⟩,
         ⟨(some 25), none, .bin .lss (.t 24) (.c (.int .i64 (0)))⟩]) (
      .cond (.t 25) (
       .seq (
        .reg none [⟨(some 4), none, .asn (.c (.int .i64 (-1)))⟩]) (
       .ret)) (
       .skip))))) (
    .reg none [⟨(some 16), none, .mv (.t 5)⟩,
      ⟨(some 17), none, .bin .add (.t 16) (.c (.int .i64 (1)))⟩,
      ⟨(some 5), none, .asn (.t 17)⟩])))))) (
 .seq (
  .reg none [⟨(some 26), none, .mv (.t 1)⟩,
    ⟨(some 4), none, .asn (.t 26)⟩]) (
 .ret)))))
def r_laws_szConfS : Nat × List RV := (27, [.t 4])

theorem c_laws_szConfS : cmpS PT PF PA (Try.prog.funcs[27]?) = some (r_laws_szConfS.1, r_laws_szConfS.2, stripK k_laws_szConfS) := by kernel_rfl

theorem h_szConfS (xs : List TConf) (left : Int) (hl : lL lConf xs) (h2 : 0 ≤ left) (h3 : left < 2 ^ 40) : CallsF Try.prog 27 [.one (.ar false 0 2 (xs.map sConf)), aI left] (aI (lft left (wL wConf xs))) := by
  refine Prun c_laws_szConfS (by simp [r_laws_szConfS]) (by simp) ?_
  unfold k_laws_szConfS r_laws_szConfS
  have hlen := hl.1
  have hlw := wL_len wConf xs
  have w1 : IntKind.i64.wrap (left - xs.length) = left - xs.length := wrapI (by omega) (by omega)
  by_cases h1 : left - (xs.length : Int) < 0
  · rw [lft_neg (by omega)]
    simp [w1, h1]
  simp [w1, h1]
  refine awp_loop (fun n σ => ∃ i : Nat, i ≤ xs.length ∧ n = xs.length - i ∧ (wL wConf (xs.take i) : Int) - i ≤ left - xs.length ∧ σ = ⟨[(0, .one (.ar false 0 2 (xs.map sConf))), (1, aI (left - xs.length - ((wL wConf (xs.take i) : Int) - i))), (5, aI i)], []⟩) (xs.length) ⟨0, by simp [wL]; omega⟩ ?_
  rintro n σ ⟨i, hi, rfl, hle, rfl⟩
  have hge := wL_len wConf (xs.take i)
  rw [List.length_take, Nat.min_eq_left hi] at hge
  by_cases h : i < xs.length
  · have hst := wL_take wConf h
    have hle2 := wL_take_le wConf xs (i + 1)
    have hlen2 := wL_len wConf (xs.drop (i + 1))
    have happ := wL_append wConf (xs.take (i + 1)) (xs.drop (i + 1))
    rw [List.take_append_drop] at happ
    rw [List.length_drop] at hlen2
    simp [h, sConf]
    refine callG_F (h_szConf xs[i] _ (hl.2 i h) (by omega) (by omega)) (by simp) ?_
    generalize hv : left - (xs.length : Int) - ((wL wConf (xs.take i) : Int) - i) = v at *
    by_cases h4 : v < (wConf xs[i] : Int)
    · simp only [lft_neg h4]
      rw [lft_neg (by omega)]
      simp
    · have e : lft v (wConf xs[i]) = v - wConf xs[i] := lft_pos (by omega)
      have n1 : ¬ v - (wConf xs[i] : Int) < 0 := by omega
      simp [e, n1]
      refine ⟨xs.length - (i + 1), by omega, i + 1, by omega, rfl, by omega, ?_⟩
      rw [wrapI (by omega) (by omega)]
      simp; omega
  · have : i = xs.length := by omega
    subst this
    rw [List.take_length] at hle
    rw [lft_pos (by omega)]
    simp
    omega
end Go.Am
-- intk
namespace Go.Am
open Go.Proofs
set_option maxHeartbeats 4000000
-- 19 loop.example/g00485/laws.markIntS
def k_laws_markIntS : K :=
 .seq (
  .reg none [⟨(some 4), none, .asn (.c (.int .i64 (0)))⟩]) (
 .seq (
  .seq (
   .reg none [⟨(some 5), none, .asn (.c (.int .i64 (0)))⟩]) (
  .block 0 (
   .loop (some ([0, 1, 5], [0, 1, 5, 1000])) (
    .seq (
     .seq (
      .reg none [⟨(some 6), none, .mv (.t 5)⟩,
        ⟨(some 7), none, .mv (.t 0)⟩,
        ⟨(some 8), none, .len (.t 7)⟩,
        ⟨(some 9), none, .bin .lss (.t 6) (.t 8)⟩]) (
     .cond (.t 9) (
      .skip) (
      .exit 0))) (
    .seq (
     .block 1 (
      .seq (
       .reg none [⟨(some 12), none, .mv (.t 0)⟩,
         ⟨(some 13), none, .mv (.t 5)⟩,
         ⟨(some 14), none, .mv (.t 1)⟩,
         ⟨(some 15), none, .iad 1 (.t 12) (.t 13)⟩,
         ⟨none, none, .st 1 false (.t 15) (.t 14)⟩]) (
      .reg none [⟨(some 16), none, .mv (.t 1)⟩,
        ⟨(some 17), none, .bin .add (.t 16) (.c (.int .i64 (1)))⟩,
        ⟨(some 1), none, .asn (.t 17)⟩]))) (
    .reg none [⟨(some 10), none, .mv (.t 5)⟩,
      ⟨(some 11), none, .bin .add (.t 10) (.c (.int .i64 (1)))⟩,
      ⟨(some 5), none, .asn (.t 11)⟩])))))) (
 .seq (
  .reg none [⟨(some 18), none, .mv (.t 1)⟩,
    ⟨(some 4), none, .asn (.t 18)⟩]) (
 .ret)))
def r_laws_markIntS : Nat × List RV := (19, [.t 4])

theorem c_laws_markIntS : cmpS PT PF PB (Try.prog.funcs[19]?) = some (r_laws_markIntS.1, r_laws_markIntS.2, stripK k_laws_markIntS) := by kernel_rfl

theorem h_markIntS (t : Nat) (xs : List Int) (k : Int) (hk : 0 ≤ k) (hk2 : k + mI.nL xs < 2 ^ 50) :
    CallsB Try.prog 19 [.one (.vw t 1 1000 [] 0 xs.length), aI k] ⟨t, 1, xs.map rI⟩ ⟨t, 1, (mI.mkL xs k).map rI⟩ (aI (k + mI.nL xs)) := by
  refine PrunB c_laws_markIntS (by simp [r_laws_markIntS]) (by simp) ?_
  unfold k_laws_markIntS r_laws_markIntS
  have hn : (mI.nL xs : Int) = xs.length := by simp [mI_n]
  simp
  refine awp_loop (fun n σ => ∃ i : Nat, i ≤ xs.length ∧ n = xs.length - i ∧ σ = ⟨[(0, .one (.vw t 1 1000 [] 0 xs.length)), (1, aI (mI.pos xs k i)), (5, aI i)], [(1000, ⟨t, 1, (mI.upto xs k i).map rI⟩)]⟩) (xs.length) ⟨0, by simp [Mk.upto_zero, Mk.pos_zero]⟩ ?_
  rintro n σ ⟨i, hi, rfl, rfl⟩
  have hp1 : mI.pos xs k i ≤ k + mI.nL xs := Mk.pos_le hi
  have hp2 : k ≤ mI.pos xs k i := Mk.pos_ge
  by_cases h : i < xs.length
  · have hpst : mI.pos xs k (i + 1) = mI.pos xs k i + 1 := Mk.pos_step h
    have hst := Mk.upto_set (M := mI) (k := k) h
    have hle : mI.pos xs k (i + 1) ≤ k + mI.nL xs := Mk.pos_le h
    have w1 : IntKind.i64.wrap (mI.pos xs k i + 1) = mI.pos xs k (i + 1) := by rw [wrapI (by omega) (by omega), hpst]
    have w2 : IntKind.i64.wrap ((i : Int) + 1) = i + 1 := wrapI (by omega) (by omega)
    simp [h, w1, w2]
    refine ⟨xs.length - (i + 1), by omega, i + 1, by omega, rfl, ?_⟩
    rw [← hst]
    simp
  · have : i = xs.length := by omega
    subst this
    simp [Mk.upto_all, Mk.pos_all]
end Go.Am
-- Conf_mk
namespace Go.Am
open Go.Proofs
set_option maxHeartbeats 4000000
-- 32 loop.example/g00485/laws.markConfS
def k_laws_markConfS : K :=
 .seq (
  .reg none [⟨(some 4), none, .asn (.c (.int .i64 (0)))⟩]) (
 .seq (
  .seq (
   .reg none [⟨(some 5), none, .asn (.c (.int .i64 (0)))⟩]) (
  .block 0 (
   .loop (some ([0, 1, 5], [0, 1, 5, 1000])) (
    .seq (
     .seq (
      .reg none [⟨(some 6), none, .mv (.t 5)⟩,
        ⟨(some 7), none, .mv (.t 0)⟩,
        ⟨(some 8), none, .len (.t 7)⟩,
        ⟨(some 9), none, .bin .lss (.t 6) (.t 8)⟩]) (
     .cond (.t 9) (
      .skip) (
      .exit 0))) (
    .seq (
     .block 1 (
      .seq (
       .reg none [⟨(some 12), none, .mv (.t 0)⟩,
         ⟨(some 13), none, .mv (.t 5)⟩,
         ⟨(some 14), none, .mv (.t 1)⟩,
         ⟨(some 15), none, .iad 2 (.t 12) (.t 13)⟩,
         ⟨(some 16), none, .fad 0 (.t 15)⟩,
         ⟨none, none, .st 1 false (.t 16) (.t 14)⟩]) (
      .seq (
       .reg none [⟨(some 17), none, .mv (.t 1)⟩,
         ⟨(some 18), none, .bin .add (.t 17) (.c (.int .i64 (1)))⟩,
         ⟨(some 1), none, .asn (.t 18)⟩]) (
      .reg none [⟨(some 19), none, .mv (.t 0)⟩,
        ⟨(some 20), none, .mv (.t 5)⟩,
        ⟨(some 21), none, .iad 2 (.t 19) (.t 20)⟩,
        ⟨(some 22), none, .fad 1 (.t 21)⟩,
        ⟨(some 23), none, .ld 1 false (.t 22)⟩,
        ⟨(some 24), none, .mv (.t 1)⟩,
        ⟨(some 25), none, .callr 19 (.t 23) [(.t 23), (.t 24)]⟩,
        ⟨(some 1), none, .asn (.t 25)⟩])))) (
    .reg none [⟨(some 10), none, .mv (.t 5)⟩,
      ⟨(some 11), none, .bin .add (.t 10) (.c (.int .i64 (1)))⟩,
      ⟨(some 5), none, .asn (.t 11)⟩])))))) (
 .seq (
  .reg none [⟨(some 26), none, .mv (.t 1)⟩,
    ⟨(some 4), none, .asn (.t 26)⟩]) (
 .ret)))
def r_laws_markConfS : Nat × List RV := (27, [.t 4])

theorem c_laws_markConfS : cmpS PT PF PB (Try.prog.funcs[32]?) = some (r_laws_markConfS.1, r_laws_markConfS.2, stripK k_laws_markConfS) := by kernel_rfl

theorem h_markConfS (t : Nat) (xs : List TConf) (k : Int) (hk : 0 ≤ k) (hk2 : k + mConf.nL xs < 2 ^ 50) (hk3 : wL wConf xs < 2 ^ 50) :
    CallsB Try.prog 32 [.one (.vw t 2 1000 [] 0 xs.length), aI k] ⟨t, 2, xs.map rConf⟩ ⟨t, 2, (mConf.mkL xs k).map rConf⟩ (aI (k + mConf.nL xs)) := by
  refine PrunB c_laws_markConfS (by simp [r_laws_markConfS]) (by simp) ?_
  unfold k_laws_markConfS r_laws_markConfS
  have hlen := wL_len wConf xs
  simp
  refine awp_loop (fun n σ => ∃ i : Nat, i ≤ xs.length ∧ n = xs.length - i ∧ σ = ⟨[(0, .one (.vw t 2 1000 [] 0 xs.length)), (1, aI (mConf.pos xs k i)), (5, aI i)], [(1000, ⟨t, 2, (mConf.upto xs k i).map rConf⟩)]⟩) (xs.length) ⟨0, by simp [Mk.upto_zero, Mk.pos_zero]⟩ ?_
  rintro n σ ⟨i, hi, rfl, rfl⟩
  have hp1 : mConf.pos xs k i ≤ k + mConf.nL xs := Mk.pos_le hi
  have hp2 : k ≤ mConf.pos xs k i := Mk.pos_ge
  by_cases h : i < xs.length
  · have hw := wL_get wConf xs i h
    have hpst : mConf.pos xs k (i + 1) = mConf.pos xs k i + mConf.n xs[i] := Mk.pos_step h
    have hle : mConf.pos xs k (i + 1) ≤ k + mConf.nL xs := Mk.pos_le h
    have hst := Mk.upto_set (M := mConf) (k := k) h
    have hga := Mk.upto_at (M := mConf) (k := k) h
    have hll := Mk.upto_len (M := mConf) (xs := xs) (k := k) (i := i)
    generalize mConf.upto xs k i = us at *
    generalize hκ : mConf.pos xs k i = p0 at *
    rcases ha : xs[i] with ⟨balt, brow⟩
    simp only [ha, mConf_n, mConf_wr] at hpst hga hst
    simp only [ha, wConf] at hw
    obtain ⟨p1, hq1⟩ : ∃ p : Int, p = p0 + 1 := ⟨_, rfl⟩
    have ww0 : IntKind.i64.wrap (p0 + 1) = p1 := by rw [wrapI (by omega) (by omega), hq1]
    have nn0 : ¬ p1 < 0 := by omega
    obtain ⟨p2, hq2⟩ : ∃ p : Int, p = p1 + (mI.nL brow : Int) := ⟨_, rfl⟩
    have nn1 : ¬ p2 < 0 := by omega
    simp only [← hq1, ← hq2] at hga hst
    simp [h, hga, hll, rConf, ww0, nn0, nn1]
    have hc1 := h_markIntS 3 brow p1 (by omega) (by omega)
    rw [← hq2] at hc1
    refine callRG_F hc1 rfl rfl (by simp) (by simp) ?_
    simp [h, hga, hll, rConf, ww0, nn0, nn1]
    refine ⟨xs.length - (i + 1), by omega, i + 1, by omega, rfl, ?_⟩
    rw [wrapI (by omega) (by omega)]
    rw [← hst]
    simp [rConf]
    omega
  · have : i = xs.length := by omega
    subst this
    simp [Mk.upto_all, Mk.pos_all]
end Go.Am
-- inth
namespace Go.Am
open Go.Proofs
set_option maxHeartbeats 4000000
-- 21 loop.example/g00485/laws.heldIntS
def k_laws_heldIntS : K :=
 .seq (
  .reg none [⟨(some 4), none, .asn (.c (.int .i64 (0)))⟩]) (
 .seq (
  .seq (
   .reg none [⟨(some 5), none, .asn (.c (.int .i64 (0)))⟩]) (
  .block 0 (
   .loop (some ([0, 1, 5], [0, 1, 5, 1000])) (
    .seq (
     .seq (
      .reg none [⟨(some 6), none, .mv (.t 5)⟩,
        ⟨(some 7), none, .mv (.t 0)⟩,
        ⟨(some 8), none, .len (.t 7)⟩,
        ⟨(some 9), none, .bin .lss (.t 6) (.t 8)⟩]) (
     .cond (.t 9) (
      .skip) (
      .exit 0))) (
    .seq (
     .block 1 (
      .seq (
       .seq (
        .reg none [⟨(some 12), none, .mv (.t 0)⟩,
          ⟨(some 13), none, .mv (.t 5)⟩,
          ⟨(some 14), none, .iad 1 (.t 12) (.t 13)⟩,
          ⟨(some 15), none, .ld 1 false (.t 14)⟩,
          ⟨(some 16), none, .mv (.t 1)⟩,
          ⟨(some 17), none, .bin .neq (.t 15) (.t 16)⟩]) (
       .cond (.t 17) (
        .seq (
         .reg none [⟨(some 4), none, .asn (.c (.int .i64 (-1)))⟩]) (
        .ret)) (
        .skip))) (
      .reg none [⟨(some 18), none, .mv (.t 1)⟩,
        ⟨(some 19), none, .bin .add (.t 18) (.c (.int .i64 (1)))⟩,
        ⟨(some 1), none, .asn (.t 19)⟩]))) (
    .reg none [⟨(some 10), none, .mv (.t 5)⟩,
      ⟨(some 11), none, .bin .add (.t 10) (.c (.int .i64 (1)))⟩,
      ⟨(some 5), none, .asn (.t 11)⟩])))))) (
 .seq (
  .reg none [⟨(some 20), none, .mv (.t 1)⟩,
    ⟨(some 4), none, .asn (.t 20)⟩]) (
 .ret)))
def r_laws_heldIntS : Nat × List RV := (21, [.t 4])

theorem c_laws_heldIntS : cmpS PT PF PA (Try.prog.funcs[21]?) = some (r_laws_heldIntS.1, r_laws_heldIntS.2, stripK k_laws_heldIntS) := by kernel_rfl

theorem h_heldIntS (xs : List Int) (k : Int) (hk : 0 ≤ k) (hk2 : k + mI.nL xs < 2 ^ 50) : CallsF Try.prog 21 [.one (.ar false 0 1 ((mI.mkL xs k).map rI)), aI k] (aI (k + mI.nL xs)) := by
  refine Prun c_laws_heldIntS (by simp [r_laws_heldIntS]) (by simp) ?_
  unfold k_laws_heldIntS r_laws_heldIntS
  simp
  refine awp_loop (fun n σ => ∃ i : Nat, i ≤ xs.length ∧ n = xs.length - i ∧ σ = ⟨[(0, .one (.ar false 0 1 ((mI.mkL xs k).map rI))), (1, aI (mI.pos xs k i)), (5, aI i)], []⟩) (xs.length) ⟨0, by simp [Mk.pos_zero]⟩ ?_
  rintro n σ ⟨i, hi, rfl, rfl⟩
  have hn : (mI.nL xs : Int) = xs.length := by simp [mI_n]
  have hp1 : mI.pos xs k i ≤ k + mI.nL xs := Mk.pos_le hi
  have hp2 : k ≤ mI.pos xs k i := Mk.pos_ge
  by_cases h : i < xs.length
  · have hpst : mI.pos xs k (i + 1) = mI.pos xs k i + 1 := Mk.pos_step h
    have hle : mI.pos xs k (i + 1) ≤ k + mI.nL xs := Mk.pos_le h
    have w1 : IntKind.i64.wrap (mI.pos xs k i + 1) = mI.pos xs k (i + 1) := by rw [wrapI (by omega) (by omega), hpst]
    have w2 : IntKind.i64.wrap ((i : Int) + 1) = i + 1 := wrapI (by omega) (by omega)
    simp [h, Mk.mkL_at h, w1, w2]
    exact ⟨xs.length - (i + 1), by omega, i + 1, by omega, rfl, by simp⟩
  · have : i = xs.length := by omega
    subst this
    simp [Mk.pos_all]
end Go.Am
-- L_SetAlts
namespace Go.Am
open Go.Proofs
set_option maxHeartbeats 4000000
theorem setAlts_len (xs : List TConf) : (setAlts xs).length ≤ xs.length := by
  have := setAltsTo_len xs (i := xs.length) (by omega)
  rwa [setAltsTo_all] at this
theorem mConf_nL : ∀ xs : List TConf, mConf.nL xs = wL wConf xs
  | [] => rfl
  | x :: xs => by rw [Mk.nL, mConf_nL xs]; simp [wL, wConf, wL_w0, mI_n]; try omega
-- 6 loop.example/g00485/laws.FnExactSetAlts
def k_laws_FnExactSetAlts : K :=
 .seq (
  .reg none [⟨(some 2), none, .asn (.c (.bool false))⟩]) (
 .seq (
  .reg none [⟨(some 3), none, .asn (.c (.int .i64 (1048576)))⟩]) (
 .seq (
  .reg none [⟨(some 11), none, .mv (.t 0)⟩,
    ⟨(some 12), none, .mv (.t 3)⟩,
    ⟨(some 13), none, .call 27 [(.t 11), (.t 12)]⟩,
    ⟨(some 3), none, .asn (.t 13)⟩]) (
 .seq (
  .seq (
   .reg none [⟨(some 14), none, .mv (.t 3)⟩,
     ⟨(some 15), none, .bin .lss (.t 14) (.c (.int .i64 (0)))⟩]) (
  .cond (.t 15) (
   .seq (
    .reg none [⟨(some 2), none, .asn (.c (.bool true))⟩]) (
   .ret)) (
   .skip))) (
 .seq (
  .reg none [⟨(some 16), none, .mv (.t 0)⟩,
    ⟨(some 17), none, .call 29 [(.t 16)]⟩,
    ⟨(some 18), none, .call 28 [(.t 17)]⟩,
    ⟨(some 4), none, .asn (.t 18)⟩]) (
 .seq (
  .reg none [⟨(some 19), none, .mv (.t 0)⟩,
    ⟨(some 20), none, .call 29 [(.t 19)]⟩,
    ⟨(some 5), none, .asn (.t 20)⟩]) (
 .seq (
  .reg none [⟨(some 21), none, .mv (.t 5)⟩,
    ⟨(some 22), none, .call 30 [(.t 21)]⟩,
    ⟨(some 6), none, .asn (.t 22)⟩]) (
 .seq (
  .seq (
   .reg none [⟨(some 23), none, .mv (.t 6)⟩,
     ⟨(some 24), none, .mv (.t 4)⟩,
     ⟨(some 25), none, .call 17 [(.t 23), (.t 24)]⟩,
     ⟨(some 26), none, .not (.t 25)⟩]) (
  .cond (.t 26) (
   .seq (
    .reg none [⟨(some 2), none, .asn (.c (.bool false))⟩]) (
   .ret)) (
   .skip))) (
 .seq (
  .seq (
   .reg none [⟨(some 27), none, .mv (.t 5)⟩,
     ⟨(some 28), none, .mv (.t 0)⟩,
     ⟨(some 29), none, .call 29 [(.t 28)]⟩,
     ⟨(some 30), none, .call 31 [(.t 27), (.t 29)]⟩,
     ⟨(some 31), none, .not (.t 30)⟩]) (
  .cond (.t 31) (
   .seq (
    .reg none [⟨(some 2), none, .asn (.c (.bool false))⟩]) (
   .ret)) (
   .skip))) (
 .seq (
  .reg none [⟨(some 7), none, .asn (.c (.int .i64 (1)))⟩]) (
 .seq (
  .reg none [⟨(some 32), none, .mv (.t 5)⟩,
    ⟨(some 33), none, .mv (.t 7)⟩,
    ⟨(some 34), none, .callr 32 (.t 32) [(.t 32), (.t 33)]⟩,
    ⟨(some 7), none, .asn (.t 34)⟩]) (
 .seq (
  .seq (
   .reg none [⟨(some 35), none, .mv (.t 7)⟩,
     ⟨(some 36), none, .bin .lss (.t 35) (.c (.int .i64 (0)))⟩,
     ⟨(some 37), none, .mv (.t 36)⟩,
     ⟨(some 38), (some (37, false)), .mv (.t 6)⟩,
     ⟨(some 39), (some (37, false)), .mv (.t 4)⟩,
     ⟨(some 40), (some (37, false)), .call 17 [(.t 38), (.t 39)]⟩,
     ⟨(some 41), (some (37, false)), .not (.t 40)⟩,
     ⟨(some 42), none, .pick (.t 37) (.c (.bool true)) (.t 41)⟩]) (
  .cond (.t 42) (
   .seq (
    .reg none [⟨(some 2), none, .asn (.c (.bool false))⟩]) (
   .ret)) (
   .skip))) (
 .seq (
  .reg none [⟨(some 8), none, .asn (.c (.int .i64 (1)))⟩]) (
 .seq (
  .reg none [⟨(some 43), none, .mv (.t 6)⟩,
    ⟨(some 44), none, .mv (.t 8)⟩,
    ⟨(some 45), none, .callr 19 (.t 43) [(.t 43), (.t 44)]⟩,
    ⟨(some 8), none, .asn (.t 45)⟩]) (
 .seq (
  .reg none [⟨(some 9), none, .asn (.c (.int .i64 (1)))⟩]) (
 .seq (
  .reg none [⟨(some 46), none, .mv (.t 6)⟩,
    ⟨(some 47), none, .mv (.t 9)⟩,
    ⟨(some 48), none, .call 21 [(.t 46), (.t 47)]⟩,
    ⟨(some 9), none, .asn (.t 48)⟩]) (
 .seq (
  .seq (
   .reg none [⟨(some 49), none, .mv (.t 9)⟩,
     ⟨(some 50), none, .bin .lss (.t 49) (.c (.int .i64 (0)))⟩]) (
  .cond (.t 50) (
   .seq (
    .reg none [⟨(some 2), none, .asn (.c (.bool false))⟩]) (
   .ret)) (
   .skip))) (
 .seq (
  .seq (
   .reg none [⟨(some 51), none, .mv (.t 9)⟩,
     ⟨(some 52), none, .mv (.t 8)⟩,
     ⟨(some 53), none, .bin .neq (.t 51) (.t 52)⟩]) (
  .cond (.t 53) (
   .seq (
    .reg none [⟨(some 2), none, .asn (.c (.bool false))⟩]) (
   .ret)) (
   .skip))) (
 .seq (
  .reg none [⟨(some 54), none, .mv (.t 0)⟩,
    ⟨(some 55), none, .call 29 [(.t 54)]⟩,
    ⟨(some 56), none, .call 30 [(.t 55)]⟩,
    ⟨(some 10), none, .asn (.t 56)⟩]) (
 .seq (
  .seq (
   .reg none [⟨(some 57), none, .mv (.t 10)⟩,
     ⟨(some 58), none, .mv (.t 4)⟩,
     ⟨(some 59), none, .call 17 [(.t 57), (.t 58)]⟩,
     ⟨(some 60), none, .not (.t 59)⟩]) (
  .cond (.t 60) (
   .seq (
    .reg none [⟨(some 2), none, .asn (.c (.bool false))⟩]) (
   .ret)) (
   .skip))) (
 .seq (
  .reg none [⟨(some 9), none, .asn (.c (.int .i64 (1)))⟩]) (
 .seq (
  .reg none [⟨(some 61), none, .mv (.t 6)⟩,
    ⟨(some 62), none, .mv (.t 9)⟩,
    ⟨(some 63), none, .call 21 [(.t 61), (.t 62)]⟩,
    ⟨(some 9), none, .asn (.t 63)⟩]) (
 .seq (
  .seq (
   .reg none [⟨(some 64), none, .mv (.t 9)⟩,
     ⟨(some 65), none, .bin .lss (.t 64) (.c (.int .i64 (0)))⟩]) (
  .cond (.t 65) (
   .seq (
    .reg none [⟨(some 2), none, .asn (.c (.bool false))⟩]) (
   .ret)) (
   .skip))) (
 .seq (
  .seq (
   .reg none [⟨(some 66), none, .mv (.t 9)⟩,
     ⟨(some 67), none, .mv (.t 8)⟩,
     ⟨(some 68), none, .bin .neq (.t 66) (.t 67)⟩]) (
  .cond (.t 68) (
   .seq (
    .reg none [⟨(some 2), none, .asn (.c (.bool false))⟩]) (
   .ret)) (
   .skip))) (
 .seq (
  .reg none [⟨(some 2), none, .asn (.c (.bool true))⟩]) (
 .ret)))))))))))))))))))))))))
def r_laws_FnExactSetAlts : Nat × List RV := (69, [.t 2])

theorem c_laws_FnExactSetAlts : cmpS PT PF PA (Try.prog.funcs[6]?) = some (r_laws_FnExactSetAlts.1, r_laws_FnExactSetAlts.2, stripK k_laws_FnExactSetAlts) := by kernel_rfl

set_option maxRecDepth 100000 in
theorem h_law_SetAlts (xs : List TConf) (hlx : lL lConf xs) : CallsF Try.prog 6 [.one (.ar false 0 2 (xs.map sConf))] (aB true) := by
  refine Prun c_laws_FnExactSetAlts (by simp [r_laws_FnExactSetAlts]) (by simp) ?_
  unfold k_laws_FnExactSetAlts r_laws_FnExactSetAlts
  have hsz := h_szConfS xs 1048576 hlx (by omega) (by omega)
  have hlen := wL_len wConf xs
  simp
  refine callG_F hsz (by simp) ?_
  by_cases g2 : (1048576 : Int) < (wL wConf xs : Int)
  · simp [lft_neg g2]
  have e1 : lft 1048576 (wL wConf xs) = 1048576 - wL wConf xs := lft_pos (by omega)
  have n1 : ¬ (1048576 : Int) - wL wConf xs < 0 := by omega
  simp [e1, n1]
  have hrl := setAlts_len xs
  have hs := h_spec_SetAlts xs (by omega)
  have hi := h_impl_SetAlts xs (by omega)
  generalize setAlts xs = rs at *
  have htx := h_toConfS xs (by omega)
  have hex := h_eqConfS xs (by omega)
  have her := h_eqIntS rs (by rw [wL_w0]; omega)
  have hmx := h_markConfS 85 xs 1 (by omega) (by rw [mConf_nL]; omega) (by omega)
  have hmr := h_markIntS 3 rs 1 (by omega) (by rw [mI_n]; omega)
  have hhr := h_heldIntS rs 1 (by omega) (by rw [mI_n]; omega)
  simp only [mI_n] at hmr hhr
  simp only [mConf_nL] at hmx
  first | refine callG_F htx (by simp) ?_ | refine callOG_F htx (by simp) ?_ | refine gcal_F htx (by simp) ?_ | refine callRG_F htx rfl rfl (by simp) (by simp) ?_ | refine ⟨_, by simp, htx, ?_⟩
  try simp
  first | refine callG_F hs (by simp) ?_ | refine callOG_F hs (by simp) ?_ | refine gcal_F hs (by simp) ?_ | refine callRG_F hs rfl rfl (by simp) (by simp) ?_ | refine ⟨_, by simp, hs, ?_⟩
  try simp
  first | refine callG_F htx (by simp) ?_ | refine callOG_F htx (by simp) ?_ | refine gcal_F htx (by simp) ?_ | refine callRG_F htx rfl rfl (by simp) (by simp) ?_ | refine ⟨_, by simp, htx, ?_⟩
  try simp
  first | refine callG_F hi (by simp) ?_ | refine callOG_F hi (by simp) ?_ | refine gcal_F hi (by simp) ?_ | refine callRG_F hi rfl rfl (by simp) (by simp) ?_ | refine ⟨_, by simp, hi, ?_⟩
  try simp
  first | refine callG_F her (by simp) ?_ | refine callOG_F her (by simp) ?_ | refine gcal_F her (by simp) ?_ | refine callRG_F her rfl rfl (by simp) (by simp) ?_ | refine ⟨_, by simp, her, ?_⟩
  try simp
  first | refine callG_F htx (by simp) ?_ | refine callOG_F htx (by simp) ?_ | refine gcal_F htx (by simp) ?_ | refine callRG_F htx rfl rfl (by simp) (by simp) ?_ | refine ⟨_, by simp, htx, ?_⟩
  try simp
  first | refine callG_F hex (by simp) ?_ | refine callOG_F hex (by simp) ?_ | refine gcal_F hex (by simp) ?_ | refine callRG_F hex rfl rfl (by simp) (by simp) ?_ | refine ⟨_, by simp, hex, ?_⟩
  try simp
  have n2 : ¬ (1 + (wL wConf xs : Int) < 0) := by omega
  have n3 : ¬ (1 + (rs.length : Int) < 0) := by omega
  first | refine callG_F hmx (by simp) ?_ | refine callOG_F hmx (by simp) ?_ | refine gcal_F hmx (by simp) ?_ | refine callRG_F hmx rfl rfl (by simp) (by simp) ?_ | refine ⟨_, by simp, hmx, ?_⟩
  try simp [n2, n3]
  first | refine callG_F her (by simp) ?_ | refine callOG_F her (by simp) ?_ | refine gcal_F her (by simp) ?_ | refine callRG_F her rfl rfl (by simp) (by simp) ?_ | refine ⟨_, by simp, her, ?_⟩
  try simp [n2, n3]
  first | refine callG_F hmr (by simp) ?_ | refine callOG_F hmr (by simp) ?_ | refine gcal_F hmr (by simp) ?_ | refine callRG_F hmr rfl rfl (by simp) (by simp) ?_ | refine ⟨_, by simp, hmr, ?_⟩
  try simp [n2, n3]
  first | refine callG_F hhr (by simp) ?_ | refine callOG_F hhr (by simp) ?_ | refine gcal_F hhr (by simp) ?_ | refine callRG_F hhr rfl rfl (by simp) (by simp) ?_ | refine ⟨_, by simp, hhr, ?_⟩
  try simp [n2, n3]
  first | refine callG_F htx (by simp) ?_ | refine callOG_F htx (by simp) ?_ | refine gcal_F htx (by simp) ?_ | refine callRG_F htx rfl rfl (by simp) (by simp) ?_ | refine ⟨_, by simp, htx, ?_⟩
  try simp [n2, n3]
  first | refine callG_F hi (by simp) ?_ | refine callOG_F hi (by simp) ?_ | refine gcal_F hi (by simp) ?_ | refine callRG_F hi rfl rfl (by simp) (by simp) ?_ | refine ⟨_, by simp, hi, ?_⟩
  try simp [n2, n3]
  first | refine callG_F her (by simp) ?_ | refine callOG_F her (by simp) ?_ | refine gcal_F her (by simp) ?_ | refine callRG_F her rfl rfl (by simp) (by simp) ?_ | refine ⟨_, by simp, her, ?_⟩
  try simp [n2, n3]
  first | refine callG_F hhr (by simp) ?_ | refine callOG_F hhr (by simp) ?_ | refine gcal_F hhr (by simp) ?_ | refine callRG_F hhr rfl rfl (by simp) (by simp) ?_ | refine ⟨_, by simp, hhr, ?_⟩
  try simp [n2, n3]
end Go.Am
-- Conf_sh
namespace Go.Am
open Go.Proofs
set_option maxHeartbeats 4000000
def shConf : List Sh := [.i, .l 1 [.i]]
theorem of_Conf (x : List C) (h : inShs shConf x) : ∃ a : TConf, x = sConf a ∧ lConf a := by
  simp only [shConf, inShs] at h
  obtain ⟨c0, r0, rfl, h0, c1, r1, rfl, h1, rfl⟩ := h
  simp only [inSh] at h0
  obtain ⟨n0, rfl⟩ := h0
  obtain ⟨n1, rfl, g1⟩ := of_sl of_int c1 h1
  refine ⟨⟨n0, n1⟩, rfl, ?_⟩
  simp only [lConf]
  exact g1
end Go.Am
-- B_FnExactSetAlts
namespace Go.Am
open Go.Proofs
set_option maxHeartbeats 4000000
open Go.ChangeShapes Go.WideShapes Go.ChangeAt Go.RowKit Go.Proofs.Ythkjmplgdceajaa
theorem own_FnExactSetAlts : ownKnob Try.prog.godebug = none := by kernel_rfl
theorem laidOut_FnExactSetAlts : laidOutB Try.prog = true := by kernel_rfl
set_option maxRecDepth 100000 in
theorem lifted_FnExactSetAlts (os : Os) (started : os.Started) (H : Type) (enc : TypeId × Value → H) :
    ReturnsInHanded {} Try.checked os 6 .any (Rows.fnExactSetAltsSpec.pre6 enc Try.prog Try.f6 Rows.fnExactSetAltsRow.domain false) (Rows.fnExactSetAltsSpec.post enc Try.prog Try.f6 false true false false) := by
  refine returnsInHanded_of_change (C := Try.checked) own_FnExactSetAlts started (by kernel_rfl) Try.func6
    (ChangeSpec.witness6 (enc := enc) (C := Try.checked) false ⟨#[], #[.slice none 0 0], []⟩ 8 (by kernel_rfl) (by kernel_rfl) (by kernel_rfl) (by kernel_rfl)) ?_
  intro W base args ds gs before hval0 hW hcnd _
  have hval : ∀ (j : Nat) t v, Try.f6.params[j]? = some t → args[j]? = some v → Value.okWide Try.prog W .any base t v := hval0
  have hW' := hW
  obtain ⟨p, q, hA0, hV, rfl, hfz, hnd⟩ := hW
  have hA : DataW.TrodAll enc Try.prog W 0 (fun _ => true) true Try.f6.params.toList args.toList ds p := hA0
  rw [Try.params6] at hA hval
  obtain ⟨v0, d0, rfl, rfl, h0⟩ := trodAll_one hA
  obtain ⟨rfl, rfl⟩ := trodVars_none hV
  have hV0 : ∀ (W' : World) (sp : Nat → Bool), DataW.TrodVars enc Try.checked.prog W' sp Rows.fnExactSetAltsSpec.vars ([] : List (DataW H)) [] := fun _ _ => by first | rfl | trivial | exact ⟨rfl, rfl⟩ | exact ⟨_, rfl, rfl⟩
  have hk0 := h0
  have hs0 : shT Try.prog 12 43 = some [.l 2 shConf] := by kernel_rfl
  obtain ⟨c0, hc0, hr0⟩ := arg_sl (lc := fun _ => none) Try.underlying43 hs0 (hval 0 43 v0 rfl rfl) h0
  obtain ⟨x0, rfl, hl0⟩ := of_sl of_Conf c0 hc0
  clear hA0 hval0
  simp only [List.append_nil] at hW'
  refine (below_of (h_law_SetAlts x0 hl0) (fun _ _ _ _ h => h.1) W [v0] (by simp [aI, A.ref, C.ref, refCs]) ⟨_, _, fz, fz, rfl, (add_fz _).symm, hr0, ⟨rfl, rfl⟩⟩ rfl).mono fun e W' ⟨he, hw⟩ => ?_
  subst he
  exact ⟨_, rfl, [d0], [], _, [], _, [], by simpa using hW', trodAll_mk1 (shut_bool Try.underlying4 true), trodAll_mk1 (Below.trod laidOut_FnExactSetAlts (by kernel_rfl) (of_decide_eq_true (by kernel_rfl)) hk0 hw (fun x hx => by have := hW'.lt x (by simp [hx]); simpa using this)), hV0 _ _, hw.frame _, fun h => by cases h⟩
theorem holds_FnExactSetAlts : Rows.FnExactSetAltsSaid :=
  OpenClaim.holds_of_wide 6 Try.f6 rfl rfl rfl rfl rfl rfl rfl ⟨rfl, rfl, rfl, rfl, rfl⟩ rfl rfl rfl rfl rfl (by kernel_rfl) Try.func6 (by kernel_rfl)
    (of_decide_eq_true (by kernel_rfl)) (by unfold Func.isWrapper; first | (rw [if_pos (by decide +kernel)]; kernel_rfl) | (rw [if_neg (by decide +kernel)]; exact ⟨rfl, rfl⟩))
    (fun os started H enc _ => lifted_FnExactSetAlts os started H enc)
#print axioms holds_FnExactSetAlts
end Go.Am
namespace Go.Proofs.Ythkjmplgdceajaa
theorem fnExactSetAlts_holds : Rows.FnExactSetAltsSaid := Go.Am.holds_FnExactSetAlts
end Go.Proofs.Ythkjmplgdceajaa
