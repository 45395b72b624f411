/- PROVED: the program's Repaired returns what the reference's returns, for all arguments. -/
import Derived.Test.YthkjmplgdceajaaAm5
import Derived.Test.YthkjmplgdceajaaProg
import Derived.Test.YthkjmplgdceajaaRows
import Derived.ProofKit
set_option linter.unusedVariables false
set_option linter.unusedSimpArgs false
namespace Go.Am
open Go.Proofs
noncomputable def PT : List (Nat × TI) := mkT Try.prog (List.range 182)
noncomputable def PF : List Nat := mkF Try.prog (List.range 133)
def PA : An := ⟨[], false, true, [(19, 0), (20, 0), (25, 0), (32, 0), (49, 0)], false, [(54, 1), (77, 3)]⟩
def PB : An := ⟨[], false, true, [(19, 0), (20, 0), (25, 0), (32, 0), (49, 0)], true, [(54, 1), (77, 3)]⟩
theorem Pmo : PA.mo = true → Try.prog.follows .mixedOrders = true := fun _ => by kernel_rfl
theorem PmoB : PB.mo = true → Try.prog.follows .mixedOrders = true := fun _ => by kernel_rfl
theorem Prun {f : FuncId} {k : K} {r : Nat × List RV} {args : List A} {v : A} (hc : cmpS PT PF PA (Try.prog.funcs[f]?) = some (r.1, r.2, stripK k)) (hn : args.length ≤ r.1) (hn2 : args.length ≤ 1000)
    (h : awp Try.prog k (FPost' r.2 fun a H => H = [] ∧ a = v) (entry args [])) : CallsF Try.prog f args v := callF_run (mkT_ok _ _) (mkF_ok _ _) PA Pmo hc hn hn2 h
theorem PrunA {f : FuncId} {k : K} {r : Nat × List RV} {args : List A} {H : List (Nat × Obj)} {R : A → List (Nat × Obj) → Prop} (hc : cmpS PT PF PA (Try.prog.funcs[f]?) = some (r.1, r.2, stripK k)) (hn : args.length ≤ r.1) (hn2 : args.length ≤ 1000)
    (h : awp Try.prog k (FPost' r.2 R) (entry args H)) : CallsA Try.prog f args H R := calls_runS (mkT_ok _ _) (mkF_ok _ _) PA Pmo hc hn hn2 h
theorem PfnOk (f : Nat) (h : PF.contains f = true) : FnOk Try.prog f := fnOk_of (mkF_ok _ _) h
theorem PrunB {f : FuncId} {k : K} {r : Nat × List RV} {args : List A} {H : List (Nat × Obj)} {R : A → List (Nat × Obj) → Prop} (hc : cmpS PT PF PB (Try.prog.funcs[f]?) = some (r.1, r.2, stripK k)) (hn : args.length ≤ r.1) (hn2 : args.length ≤ 1000)
    (h : awp Try.prog k (FPost' r.2 R) (entry args H)) : CallsA Try.prog f args H R := calls_runS (mkT_ok _ _) (mkF_ok _ _) PB PmoB hc hn hn2 h
end Go.Am
-- ints
namespace Go.Am
open Go.Proofs
set_option maxHeartbeats 4000000
-- 17 loop.example/g00485/laws.eqIntS
def k_laws_eqIntS : K :=
 .seq (
  .reg none [⟨(some 4), none, .asn (.c (.bool false))⟩]) (
 .seq (
  .seq (
   .reg none [⟨(some 6), none, .mv (.t 0)⟩,
     ⟨(some 7), none, .len (.t 6)⟩,
     ⟨(some 8), none, .mv (.t 1)⟩,
     ⟨(some 9), none, .len (.t 8)⟩,
     ⟨(some 10), none, .bin .neq (.t 7) (.t 9)⟩]) (
  .cond (.t 10) (
   .seq (
    .reg none [⟨(some 4), none, .asn (.c (.bool false))⟩]) (
   .ret)) (
   .skip))) (
 .seq (
  .seq (
   .reg none [⟨(some 5), none, .asn (.c (.int .i64 (0)))⟩]) (
  .block 0 (
   .loop (some ([0, 1, 5], [0, 1, 5, 1000])) (
    .seq (
     .seq (
      .reg none [⟨(some 11), none, .mv (.t 5)⟩,
        ⟨(some 12), none, .mv (.t 0)⟩,
        ⟨(some 13), none, .len (.t 12)⟩,
        ⟨(some 14), none, .bin .lss (.t 11) (.t 13)⟩]) (
     .cond (.t 14) (
      .skip) (
      .exit 0))) (
    .seq (
     .block 1 (
      .seq (
       .drw none 9 [⟨(some 17), none, .mv (.t 0)⟩,
         ⟨(some 18), none, .mv (.t 5)⟩,
         ⟨(some 19), none, .iad 1 (.t 17) (.t 18)⟩,
         ⟨(some 20), none, .ld 1 false (.t 19)⟩,
         ⟨(some 21), none, .mv (.t 1)⟩,
         ⟨(some 22), none, .mv (.t 5)⟩,
         ⟨(some 23), none, .iad 1 (.t 21) (.t 22)⟩,
         ⟨(some 24), none, .ld 1 false (.t 23)⟩,
         ⟨(some 25), none, .bin .neq (.t 20) (.t 24)⟩]) (
      .cond (.t 25) (
       .seq (
        .reg none [⟨(some 4), none, .asn (.c (.bool false))⟩]) (
       .ret)) (
       .skip)))) (
    .reg none [⟨(some 15), none, .mv (.t 5)⟩,
      ⟨(some 16), none, .bin .add (.t 15) (.c (.int .i64 (1)))⟩,
      ⟨(some 5), none, .asn (.t 16)⟩])))))) (
 .seq (
  .reg none [⟨(some 4), none, .asn (.c (.bool true))⟩]) (
 .ret))))
def r_laws_eqIntS : Nat × List RV := (26, [.t 4])

theorem c_laws_eqIntS : cmpS PT PF PA (Try.prog.funcs[17]?) = some (r_laws_eqIntS.1, r_laws_eqIntS.2, stripK k_laws_eqIntS) := by kernel_rfl

theorem h_eqIntS (xs : List Int) (hx : wL w0 xs < 2 ^ 40) : CallsF Try.prog 17 [.one (.ar false 0 1 (xs.map rI)), .one (.ar false 0 1 (xs.map rI))] (aB true) := by
  refine Prun c_laws_eqIntS (by simp [r_laws_eqIntS]) (by simp) ?_
  unfold k_laws_eqIntS r_laws_eqIntS
  rw [wL_w0] at hx
  simp
  refine awp_loop (fun n σ => ∃ i : Nat, i ≤ xs.length ∧ n = xs.length - i ∧ σ = ⟨[(0, .one (.ar false 0 1 (xs.map rI))), (1, .one (.ar false 0 1 (xs.map rI))), (5, aI i)], []⟩) (xs.length) ⟨0, by simp⟩ ?_
  rintro n σ ⟨i, hi, rfl, rfl⟩
  by_cases h : i < xs.length
  · simp [h]
    refine ⟨xs.length - (i + 1), by omega, i + 1, by omega, rfl, ?_⟩
    rw [wrapI (by omega) (by omega)]
    simp
  · simp [h]
-- 14 loop.example/g00485/laws.toIntS
def k_laws_toIntS : K :=
 .seq (
  .reg none [⟨(some 2), none, .asn (.c (.ar true 3 1 []))⟩]) (
 .seq (
  .reg none [⟨(some 5), none, .mv (.t 0)⟩,
    ⟨(some 6), none, .len (.t 5)⟩,
    ⟨(some 7), none, .mks 3 1 8 [(.int .i64 (0))] (.t 6) (.t 6)⟩,
    ⟨(some 3), none, .asn (.t 7)⟩]) (
 .seq (
  .seq (
   .reg none [⟨(some 4), none, .asn (.c (.int .i64 (0)))⟩]) (
  .block 0 (
   .loop (some ([0, 3, 4], [0, 3, 4, 1000])) (
    .seq (
     .seq (
      .reg none [⟨(some 8), none, .mv (.t 4)⟩,
        ⟨(some 9), none, .mv (.t 0)⟩,
        ⟨(some 10), none, .len (.t 9)⟩,
        ⟨(some 11), none, .bin .lss (.t 8) (.t 10)⟩]) (
     .cond (.t 11) (
      .skip) (
      .exit 0))) (
    .seq (
     .block 1 (
      .reg none [⟨(some 14), none, .mv (.t 3)⟩,
        ⟨(some 15), none, .mv (.t 4)⟩,
        ⟨(some 16), none, .mv (.t 0)⟩,
        ⟨(some 17), none, .mv (.t 4)⟩,
        ⟨(some 18), none, .iad 1 (.t 16) (.t 17)⟩,
        ⟨(some 19), none, .ld 1 false (.t 18)⟩,
        ⟨(some 20), none, .iad 1 (.t 14) (.t 15)⟩,
        ⟨none, none, .st 1 false (.t 20) (.t 19)⟩])) (
    .reg none [⟨(some 12), none, .mv (.t 4)⟩,
      ⟨(some 13), none, .bin .add (.t 12) (.c (.int .i64 (1)))⟩,
      ⟨(some 4), none, .asn (.t 13)⟩])))))) (
 .seq (
  .reg none [⟨(some 21), none, .mv (.t 3)⟩,
    ⟨(some 2), none, .asn (.t 21)⟩]) (
 .ret))))
def r_laws_toIntS : Nat × List RV := (22, [.t 2])

theorem c_laws_toIntS : cmpS PT PF PA (Try.prog.funcs[14]?) = some (r_laws_toIntS.1, r_laws_toIntS.2, stripK k_laws_toIntS) := by kernel_rfl

theorem h_toIntS (xs : List Int) (hx : wL w0 xs < 2 ^ 31) : CallsF Try.prog 14 [.one (.ar false 0 1 (xs.map rI))] (.one (.ar true 3 1 (xs.map rI))) := by
  refine Prun c_laws_toIntS (by simp [r_laws_toIntS]) (by simp) ?_
  unfold k_laws_toIntS r_laws_toIntS
  rw [wL_w0] at hx
  have hc : ((xs.length : Int) ≤ 4294967296) := by omega
  simp [hc]
  refine awp_loop (fun n σ => ∃ i : Nat, i ≤ xs.length ∧ n = xs.length - i ∧ σ = ⟨[(0, .one (.ar false 0 1 (xs.map rI))), (3, .one (.vw 3 1 3 [] 0 xs.length)), (4, aI i)], [(3, ⟨3, 1, part rI [.int .i64 0] xs i⟩)]⟩) (xs.length) ⟨0, by simp [part_zero]⟩ ?_
  rintro n σ ⟨i, hi, rfl, rfl⟩
  by_cases h : i < xs.length
  · simp [h, part_get h]
    refine ⟨xs.length - (i + 1), by omega, i + 1, by omega, rfl, ?_⟩
    rw [wrapI (by omega) (by omega)]
    have := part_set (r := rI) (z := [.int .i64 0]) h
    simp only [rI] at this
    simp [this]
  · have : i = xs.length := by omega
    subst this
    simp [part_all]
end Go.Am
-- Err_y
namespace Go.Am
open Go.Proofs
set_option maxHeartbeats 4000000
structure TErr where
  kind : Int
  pos : Int
  sym : Int
  deriving DecidableEq, Inhabited
def rErr (a : TErr) : List C := [cI a.kind, cI a.pos, cI a.sym]
def sErr (a : TErr) : List C := [cI a.kind, cI a.pos, cI a.sym]
def zErr : List C := [cI 0, cI 0, cI 0]
@[simp] theorem rErr_len (a : TErr) : (rErr a).length = 3 := rfl
@[simp] theorem sErr_len (a : TErr) : (sErr a).length = 3 := rfl
@[simp] theorem shr_rErr (a : TErr) : shrRow (rErr a) = sErr a := by simp [rErr, sErr]
@[simp] theorem shr_sErr (a : TErr) : shrRow (sErr a) = sErr a := by simp [sErr]
@[simp] theorem shrs_rErr (xs : List TErr) : shrRows (xs.map rErr) = xs.map sErr := shrRows_of shr_rErr xs
@[simp] theorem shrs_sErr (xs : List TErr) : shrRows (xs.map sErr) = xs.map sErr := shrRows_of shr_sErr xs
@[simp] theorem noSh_rErr (xs : List TErr) : noShRows (xs.map rErr) = true := noSh_of (fun a => by simp [rErr]) xs
def wErr (_ : TErr) : Nat := 0
def lErr (_ : TErr) : Prop := True
def mErr : Mk TErr := ⟨fun _ k => ⟨k, k + 1, k + 1 + 1⟩, fun _ => 1 + 1 + 1⟩
@[simp] theorem mErr_wr (a : TErr) (k : Int) : mErr.wr a k = ⟨k, k + 1, k + 1 + 1⟩ := rfl
@[simp] theorem mErr_n (a : TErr) : mErr.n a = 1 + 1 + 1 := rfl
end Go.Am
-- repaired
namespace Go.Am
open Go.Proofs
set_option maxHeartbeats 4000000
def hereE (i n : Int) (e : TErr) : Bool := decide (e.pos = i) || (decide (i = n) && decide (i < e.pos))
def addE (i n : Int) (e : TErr) : Bool := decide (e.kind = 1) && hereE i n e
def skpE (i : Int) (e : TErr) : Bool := decide (e.kind = 0) && decide (e.pos = i)
def insE (es : List TErr) (i n : Int) : List Int := (es.filter (addE i n)).map TErr.sym
def repTo (ws : List Int) (es : List TErr) : Nat → List Int
  | 0 => []
  | i + 1 => repTo ws es i ++ insE es i ws.length ++ (if i < ws.length ∧ es.any (skpE i) = false then [ws.getD i 0] else [])
def repaired (ws : List Int) (es : List TErr) : List Int := repTo ws es (ws.length + 1)
theorem insE_step {es : List TErr} {i n : Int} {j : Nat} (h : j < es.length) : insE (es.take (j + 1)) i n = insE (es.take j) i n ++ (if addE i n es[j] then [es[j].sym] else []) := by
  rw [List.take_succ_eq_append_getElem h]
  simp only [insE, List.filter_append, List.map_append]
  congr 1
  cases hh : addE i n es[j] <;> simp [List.filter, hh]
theorem any_step {es : List TErr} {i : Int} {j : Nat} (h : j < es.length) : (es.take (j + 1)).any (skpE i) = ((es.take j).any (skpE i) || skpE i es[j]) := by
  rw [List.take_succ_eq_append_getElem h]
  simp only [List.any_append, List.any_cons, List.any_nil, Bool.or_false]
theorem insE_count (es : List TErr) {i n : Nat} (h : i < n) : (insE es i n).length + es.countP (fun e => decide (e.pos < (i : Int))) ≤ es.countP (fun e => decide (e.pos < ((i + 1 : Nat) : Int))) := by
  induction es with
  | nil => simp [insE]
  | cons e es ih =>
    simp only [insE, List.length_map] at ih ⊢
    simp only [List.filter_cons, List.countP_cons]
    have hh : addE (i : Int) (n : Int) e = true → e.pos = i := by
      simp only [addE, hereE, Bool.and_eq_true, Bool.or_eq_true, decide_eq_true_eq]
      omega
    cases ha : addE (i : Int) (n : Int) e with
    | true =>
      have hb := hh ha
      have h1 : ¬ e.pos < (i : Int) := by omega
      have h2 : e.pos < ((i + 1 : Nat) : Int) := by omega
      simp only [if_true, List.length_cons, h1, h2, decide_true, decide_false, Bool.false_eq_true, if_false]
      omega
    | false =>
      simp only [Bool.false_eq_true, if_false]
      by_cases h1 : e.pos < (i : Int)
      · have h2 : e.pos < ((i + 1 : Nat) : Int) := by omega
        simp only [h1, h2, decide_true, if_true]; omega
      · simp only [h1, decide_false, Bool.false_eq_true, if_false]
        split <;> omega
theorem repTo_len (ws : List Int) (es : List TErr) : ∀ i : Nat, i ≤ ws.length → (repTo ws es i).length ≤ i + es.countP (fun e => decide (e.pos < (i : Int)))
  | 0, _ => by simp [repTo]
  | i + 1, h => by
    have h1 := repTo_len ws es i (by omega)
    have h2 := insE_count es (i := i) (n := ws.length) (by omega)
    simp only [repTo, List.length_append]
    have h3 : (if i < ws.length ∧ es.any (skpE i) = false then [ws.getD i 0] else []).length ≤ 1 := by split <;> simp
    omega
end Go.Am
-- Repaired
namespace Go.Am
open Go.Proofs
set_option maxHeartbeats 4000000
-- 13 loop.example/g00485/spec.Repaired
def k_spec_Repaired : K :=
 .seq (
  .reg none [⟨(some 4), none, .asn (.c (.ar true 3 1 []))⟩]) (
 .seq (
  .reg none [⟨(some 10), none, .bls 3 1 false []⟩,
    ⟨(some 5), none, .asn (.t 10)⟩]) (
 .seq (
  .seq (
   .reg none [⟨(some 6), none, .asn (.c (.int .i64 (0)))⟩]) (
  .block 0 (
   .loop (some ([0, 1, 5, 6], [0, 1, 5, 6, 1000])) (
    .seq (
     .seq (
      .reg none [⟨(some 11), none, .mv (.t 6)⟩,
        ⟨(some 12), none, .mv (.t 0)⟩,
        ⟨(some 13), none, .len (.t 12)⟩,
        ⟨(some 14), none, .bin .leq (.t 11) (.t 13)⟩]) (
     .cond (.t 14) (
      .skip) (
      .exit 0))) (
    .seq (
     .block 1 (
      .seq (
       .reg none [⟨(some 7), none, .asn (.c (.bool false))⟩]) (
      .seq (
       .seq (
        .reg none [⟨(some 8), none, .asn (.c (.int .i64 (0)))⟩]) (
       .block 2 (
        .loop (some ([0, 1, 5, 6, 7, 8], [0, 1, 5, 6, 7, 8, 1000])) (
         .seq (
          .seq (
           .reg none [⟨(some 17), none, .mv (.t 8)⟩,
             ⟨(some 18), none, .mv (.t 1)⟩,
             ⟨(some 19), none, .len (.t 18)⟩,
             ⟨(some 20), none, .bin .lss (.t 17) (.t 19)⟩]) (
          .cond (.t 20) (
           .skip) (
           .exit 2))) (
         .seq (
          .block 3 (
           .seq (
            .reg none [⟨(some 23), none, .mv (.t 1)⟩,
              ⟨(some 24), none, .mv (.t 8)⟩,
              ⟨(some 25), none, .iad 3 (.t 23) (.t 24)⟩,
              ⟨(some 26), none, .ld 3 true (.t 25)⟩,
              ⟨(some 9), none, .alc 75 3 [(.int .i64 (0)), (.int .i64 (0)), (.int .i64 (0))]⟩,
              ⟨none, none, .st 3 false (.t 9) (.t 26)⟩]) (
           .seq (
            .seq (
             .reg none [⟨(some 27), none, .fad 0 (.t 9)⟩,
               ⟨(some 28), none, .ld 1 false (.t 27)⟩,
               ⟨(some 29), none, .bin .eql (.t 28) (.c (.int .i64 (1)))⟩,
               ⟨(some 30), none, .mv (.t 29)⟩,
               ⟨(some 31), (some (30, true)), .fad 1 (.t 9)⟩,
               ⟨(some 32), (some (30, true)), .ld 1 false (.t 31)⟩,
               ⟨(some 33), (some (30, true)), .mv (.t 6)⟩,
               ⟨(some 34), (some (30, true)), .bin .eql (.t 32) (.t 33)⟩,
               ⟨(some 35), (some (30, true)), .mv (.t 34)⟩,
               ⟨(some 36), (some (35, false)), .mv (.t 6)⟩,
               ⟨(some 37), (some (35, false)), .mv (.t 0)⟩,
               ⟨(some 38), (some (35, false)), .len (.t 37)⟩,
               ⟨(some 39), (some (35, false)), .bin .eql (.t 36) (.t 38)⟩,
               ⟨(some 40), (some (35, false)), .mv (.t 39)⟩,
               ⟨(some 41), (some (40, true)), .fad 1 (.t 9)⟩,
               ⟨(some 42), (some (40, true)), .ld 1 false (.t 41)⟩,
               ⟨(some 43), (some (40, true)), .mv (.t 6)⟩,
               ⟨(some 44), (some (40, true)), .bin .gtr (.t 42) (.t 43)⟩,
               ⟨(some 45), (some (35, false)), .pick (.t 40) (.t 44) (.c (.bool false))⟩,
               ⟨(some 46), (some (30, true)), .pick (.t 35) (.c (.bool true)) (.t 45)⟩,
               ⟨(some 47), none, .pick (.t 30) (.t 46) (.c (.bool false))⟩]) (
            .cond (.t 47) (
             .reg none [⟨(some 48), none, .mv (.t 5)⟩,
               ⟨(some 49), none, .fad 2 (.t 9)⟩,
               ⟨(some 50), none, .ld 1 false (.t 49)⟩,
               ⟨(some 51), none, .bls 3 1 false [(.t 50)]⟩,
               ⟨(some 52), none, .app 3 1 8 false (.t 48) (.t 51)⟩,
               ⟨(some 5), none, .asn (.t 52)⟩]) (
             .skip))) (
           .reg none [⟨(some 53), none, .mv (.t 7)⟩,
             ⟨(some 54), none, .mv (.t 53)⟩,
             ⟨(some 55), (some (54, false)), .fad 0 (.t 9)⟩,
             ⟨(some 56), (some (54, false)), .ld 1 false (.t 55)⟩,
             ⟨(some 57), (some (54, false)), .bin .eql (.t 56) (.c (.int .i64 (0)))⟩,
             ⟨(some 58), (some (54, false)), .mv (.t 57)⟩,
             ⟨(some 59), (some (58, true)), .fad 1 (.t 9)⟩,
             ⟨(some 60), (some (58, true)), .ld 1 false (.t 59)⟩,
             ⟨(some 61), (some (58, true)), .mv (.t 6)⟩,
             ⟨(some 62), (some (58, true)), .bin .eql (.t 60) (.t 61)⟩,
             ⟨(some 63), (some (54, false)), .pick (.t 58) (.t 62) (.c (.bool false))⟩,
             ⟨(some 64), none, .pick (.t 54) (.c (.bool true)) (.t 63)⟩,
             ⟨(some 7), none, .asn (.t 64)⟩])))) (
         .reg none [⟨(some 21), none, .mv (.t 8)⟩,
           ⟨(some 22), none, .bin .add (.t 21) (.c (.int .i64 (1)))⟩,
           ⟨(some 8), none, .asn (.t 22)⟩])))))) (
      .seq (
       .reg none [⟨(some 65), none, .mv (.t 6)⟩,
         ⟨(some 66), none, .mv (.t 0)⟩,
         ⟨(some 67), none, .len (.t 66)⟩,
         ⟨(some 68), none, .bin .lss (.t 65) (.t 67)⟩,
         ⟨(some 69), none, .mv (.t 68)⟩,
         ⟨(some 70), (some (69, true)), .mv (.t 7)⟩,
         ⟨(some 71), (some (69, true)), .not (.t 70)⟩,
         ⟨(some 72), none, .pick (.t 69) (.t 71) (.c (.bool false))⟩]) (
      .cond (.t 72) (
       .reg none [⟨(some 73), none, .mv (.t 5)⟩,
         ⟨(some 74), none, .mv (.t 0)⟩,
         ⟨(some 75), none, .mv (.t 6)⟩,
         ⟨(some 76), none, .iad 1 (.t 74) (.t 75)⟩,
         ⟨(some 77), none, .ld 1 false (.t 76)⟩,
         ⟨(some 78), none, .bls 3 1 false [(.t 77)]⟩,
         ⟨(some 79), none, .app 3 1 8 false (.t 73) (.t 78)⟩,
         ⟨(some 5), none, .asn (.t 79)⟩]) (
       .skip)))))) (
    .reg none [⟨(some 15), none, .mv (.t 6)⟩,
      ⟨(some 16), none, .bin .add (.t 15) (.c (.int .i64 (1)))⟩,
      ⟨(some 6), none, .asn (.t 16)⟩])))))) (
 .seq (
  .reg none [⟨(some 80), none, .mv (.t 5)⟩,
    ⟨(some 4), none, .asn (.t 80)⟩]) (
 .ret))))
def r_spec_Repaired : Nat × List RV := (81, [.t 4])

theorem c_spec_Repaired : cmpS PT PF PA (Try.prog.funcs[13]?) = some (r_spec_Repaired.1, r_spec_Repaired.2, stripK k_spec_Repaired) := by kernel_rfl

set_option maxRecDepth 100000 in
set_option maxHeartbeats 16000000 in
theorem h_spec_Repaired (ws : List Int) (es : List TErr) (hw : ws.length ≤ 1048576) (he : es.length ≤ 1048576) : CallsF Try.prog 13 [.one (.ar false 0 1 (ws.map rI)), .one (.ar false 0 3 (es.map sErr))] (.one (.ar true 3 1 ((repaired ws es).map rI))) := by
  refine Prun c_spec_Repaired (by simp [r_spec_Repaired]) (by simp) ?_
  unfold k_spec_Repaired r_spec_Repaired
  simp
  refine awp_loop (fun n σ => ∃ i : Nat, i ≤ ws.length + 1 ∧ n = ws.length + 1 - i ∧ σ = ⟨[(0, .one (.ar false 0 1 (ws.map rI))), (1, .one (.ar false 0 3 (es.map sErr))), (5, .one (.vw 3 1 5 [] 0 (repTo ws es i).length)), (6, aI i)], [(5, ⟨3, 1, (repTo ws es i).map rI⟩)]⟩) (ws.length + 1) ⟨0, by simp [repTo]⟩ ?_
  rintro n σ ⟨i, hi, rfl, rfl⟩
  by_cases h : (i : Int) ≤ ws.length
  · simp [h]
    have hlen := repTo_len ws es i (by omega)
    have hcnt := List.countP_le_length (p := fun e : TErr => decide (e.pos < (i : Int))) (l := es)
    have hrs : repTo ws es (i + 1) = repTo ws es i ++ insE es i ws.length ++ (if i < ws.length ∧ es.any (skpE i) = false then [ws.getD i 0] else []) := rfl
    refine awp_loop (fun n σ => ∃ j : Nat, j ≤ es.length ∧ n = es.length - j ∧ σ = ⟨[(0, .one (.ar false 0 1 (ws.map rI))), (1, .one (.ar false 0 3 (es.map sErr))), (5, .one (.vw 3 1 5 [] 0 (repTo ws es i ++ insE (es.take j) i ws.length).length)), (6, aI i), (7, aB ((es.take j).any (skpE i))), (8, aI j)], [(5, ⟨3, 1, (repTo ws es i ++ insE (es.take j) i ws.length).map rI⟩)]⟩) es.length ⟨0, by simp [insE]⟩ ?_
    rintro n σ ⟨j, hj, rfl, rfl⟩
    have hl2 : (insE (es.take j) i ws.length).length ≤ es.length := by
      simp only [insE, List.length_map]
      have := List.length_filter_le (addE (i : Int) ws.length) (es.take j)
      simp at this; omega
    by_cases h2 : j < es.length
    · have hbN : (repTo ws es i).length + (insE (es.take j) i ws.length).length + 1 ≤ 4294967296 := by omega
      have w1 : IntKind.i64.wrap ((j : Int) + 1) = j + 1 := wrapI (by omega) (by omega)
      have hi1 := insE_step (i := (i : Int)) (n := ws.length) h2
      have ha1 := any_step (i := (i : Int)) h2
      generalize hB : (es.take j).any (skpE i) = B at *
      generalize hL : repTo ws es i = L1 at *
      generalize hM : insE (es.take j) i ws.length = L2 at *
      have hT : List.take (L1.length + L2.length) (List.map rI L1 ++ List.map rI L2) = List.map rI L1 ++ List.map rI L2 := List.take_of_length_le (by simp)
      rcases ee : es[j] with ⟨e1, e2, e3⟩
      simp only [ee, addE, hereE, skpE] at hi1 ha1
      have hfin : ∀ {Q : Prop}, (∀ m, m = es.length - (j + 1) → m < es.length - j → Q) → Q := fun h => h _ rfl (by omega)
      by_cases q2 : i = ws.length
      · subst q2
        by_cases k1 : e1 = 1
        · have k2 : ¬ e1 = 0 := by omega
          by_cases q1 : e2 = (ws.length : Int)
          · have q3 : ¬ (ws.length : Int) < e2 := by omega
            cases B <;>
              (simp [k1, k2, q1, q3] at hi1 ha1
               simp [h2, ee, sErr, k1, k2, q1, q3, hbN, w1]
               refine ⟨es.length - (j + 1), by omega, j + 1, by omega, rfl, ?_⟩
               simp [hi1, ha1, Nat.add_assoc]
               try first | exact ha1 | exact ⟨ha1, by rw [hT]; simp [rI]⟩ | (rw [hT]; simp [rI]))
          · by_cases q3 : (ws.length : Int) < e2 <;> cases B <;>
              (simp [k1, k2, q1, q3] at hi1 ha1
               simp [h2, ee, sErr, k1, k2, q1, q3, hbN, w1]
               refine ⟨es.length - (j + 1), by omega, j + 1, by omega, rfl, ?_⟩
               simp [hi1, ha1, Nat.add_assoc]
               try first | exact ha1 | exact ⟨ha1, by rw [hT]; simp [rI]⟩ | (rw [hT]; simp [rI]))
        · cases B
          · by_cases k2 : e1 = 0
            · by_cases q1 : e2 = (ws.length : Int) <;>
                (simp [k1, k2, q1] at hi1 ha1
                 simp [h2, ee, sErr, k1, k2, q1, hbN, w1]
                 refine ⟨es.length - (j + 1), by omega, j + 1, by omega, rfl, ?_⟩
                 simp [hi1, ha1, Nat.add_assoc]
                 try first | exact ha1 | exact ⟨ha1, by rw [hT]; simp [rI]⟩ | (rw [hT]; simp [rI]))
            · skip
              (simp [k1, k2] at hi1 ha1
               simp [h2, ee, sErr, k1, k2, hbN, w1]
               refine ⟨es.length - (j + 1), by omega, j + 1, by omega, rfl, ?_⟩
               simp [hi1, ha1, Nat.add_assoc]
               try first | exact ha1 | exact ⟨ha1, by rw [hT]; simp [rI]⟩ | (rw [hT]; simp [rI]))
          · skip
            (simp [k1] at hi1 ha1
             simp [h2, ee, sErr, k1, hbN, w1]
             refine ⟨es.length - (j + 1), by omega, j + 1, by omega, rfl, ?_⟩
             simp [hi1, ha1, Nat.add_assoc]
             try first | exact ha1 | exact ⟨ha1, by rw [hT]; simp [rI]⟩ | (rw [hT]; simp [rI]))
      · have q4 : ¬ (i : Int) = ws.length := by omega
        by_cases k1 : e1 = 1
        · have k2 : ¬ e1 = 0 := by omega
          by_cases q1 : e2 = (i : Int)
          · have q3 : ¬ (i : Int) < e2 := by omega
            cases B <;>
              (simp [k1, k2, q1, q3, q2, q4] at hi1 ha1
               simp [h2, ee, sErr, k1, k2, q1, q3, q2, q4, hbN, w1]
               refine ⟨es.length - (j + 1), by omega, j + 1, by omega, rfl, ?_⟩
               simp [hi1, ha1, Nat.add_assoc]
               try first | exact ha1 | exact ⟨ha1, by rw [hT]; simp [rI]⟩ | (rw [hT]; simp [rI]))
          · by_cases q3 : (i : Int) < e2 <;> cases B <;>
              (simp [k1, k2, q1, q3, q2, q4] at hi1 ha1
               simp [h2, ee, sErr, k1, k2, q1, q3, q2, q4, hbN, w1]
               refine ⟨es.length - (j + 1), by omega, j + 1, by omega, rfl, ?_⟩
               simp [hi1, ha1, Nat.add_assoc]
               try first | exact ha1 | exact ⟨ha1, by rw [hT]; simp [rI]⟩ | (rw [hT]; simp [rI]))
        · cases B
          · by_cases k2 : e1 = 0
            · by_cases q1 : e2 = (i : Int) <;>
                (simp [k1, k2, q1, q2, q4] at hi1 ha1
                 simp [h2, ee, sErr, k1, k2, q1, q2, q4, hbN, w1]
                 refine ⟨es.length - (j + 1), by omega, j + 1, by omega, rfl, ?_⟩
                 simp [hi1, ha1, Nat.add_assoc]
                 try first | exact ha1 | exact ⟨ha1, by rw [hT]; simp [rI]⟩ | (rw [hT]; simp [rI]))
            · skip
              (simp [k1, k2, q2, q4] at hi1 ha1
               simp [h2, ee, sErr, k1, k2, q2, q4, hbN, w1]
               refine ⟨es.length - (j + 1), by omega, j + 1, by omega, rfl, ?_⟩
               simp [hi1, ha1, Nat.add_assoc]
               try first | exact ha1 | exact ⟨ha1, by rw [hT]; simp [rI]⟩ | (rw [hT]; simp [rI]))
          · skip
            (simp [k1, q2, q4] at hi1 ha1
             simp [h2, ee, sErr, k1, q2, q4, hbN, w1]
             refine ⟨es.length - (j + 1), by omega, j + 1, by omega, rfl, ?_⟩
             simp [hi1, ha1, Nat.add_assoc]
             try first | exact ha1 | exact ⟨ha1, by rw [hT]; simp [rI]⟩ | (rw [hT]; simp [rI]))
    · have : j = es.length := by omega
      subst this
      rw [List.take_length] at *
      have hbN : (repTo ws es i).length + (insE es i ws.length).length + 1 ≤ 4294967296 := by omega
      have w1 : IntKind.i64.wrap ((i : Int) + 1) = i + 1 := wrapI (by omega) (by omega)
      generalize hB : es.any (skpE i) = B at *
      generalize hL : repTo ws es i = L1 at *
      generalize hM : insE es i ws.length = L2 at *
      have hT : List.take (L1.length + L2.length) (List.map rI L1 ++ List.map rI L2) = List.map rI L1 ++ List.map rI L2 := List.take_of_length_le (by simp)
      cases B <;> by_cases q2 : i < ws.length <;>
        (simp [h2, q2, hbN, w1]
         refine ⟨ws.length + 1 - (i + 1), by omega, i + 1, by omega, rfl, ?_⟩
         simp [hrs, hT, q2, Nat.add_assoc])
  · have : i = ws.length + 1 := by omega
    subst this
    have h' : ¬ ((ws.length : Int) + 1 ≤ ws.length) := by omega
    simp [h', repaired]
-- 16 loop.example/g00485/impl.Repaired
def k_impl_Repaired : K :=
 .seq (
  .reg none [⟨(some 4), none, .asn (.c (.ar true 3 1 []))⟩]) (
 .seq (
  .reg none [⟨(some 5), none, .asn (.c (.ar true 3 1 []))⟩]) (
 .seq (
  .seq (
   .reg none [⟨(some 6), none, .asn (.c (.int .i64 (0)))⟩]) (
  .block 0 (
   .loop (some ([0, 1, 5, 6], [0, 1, 5, 6, 1000])) (
    .seq (
     .seq (
      .reg none [⟨(some 11), none, .mv (.t 6)⟩,
        ⟨(some 12), none, .mv (.t 0)⟩,
        ⟨(some 13), none, .len (.t 12)⟩,
        ⟨(some 14), none, .bin .leq (.t 11) (.t 13)⟩]) (
     .cond (.t 14) (
      .skip) (
      .exit 0))) (
    .seq (
     .block 1 (
      .seq (
       .reg none [⟨(some 7), none, .asn (.c (.bool false))⟩]) (
      .seq (
       .seq (
        .reg none [⟨(some 17), none, .mv (.t 1)⟩,
          ⟨(some 18), none, .len (.t 17)⟩,
          ⟨(some 19), none, .mv (.c (.int .i64 (0)))⟩]) (
       .block 2 (
        .loop (some ([0, 1, 5, 6, 7, 17, 18, 19], [0, 1, 5, 6, 7, 1000])) (
         .seq (
          .reg none [⟨(some 20), none, .bin .lss (.t 19) (.t 18)⟩]) (
         .seq (
          .cond (.t 20) (
           .skip) (
           .exit 2)) (
         .seq (
          .block 3 (
           .seq (
            .reg none [⟨(some 21), none, .iad 3 (.t 17) (.t 19)⟩,
              ⟨(some 22), none, .ld 3 true (.t 21)⟩,
              ⟨(some 9), none, .alc 75 3 [(.int .i64 (0)), (.int .i64 (0)), (.int .i64 (0))]⟩,
              ⟨none, none, .st 3 false (.t 9) (.t 22)⟩]) (
           .seq (
            .reg none [⟨(some 23), none, .fad 1 (.t 9)⟩,
              ⟨(some 24), none, .ld 1 false (.t 23)⟩,
              ⟨(some 25), none, .mv (.t 6)⟩,
              ⟨(some 26), none, .bin .eql (.t 24) (.t 25)⟩,
              ⟨(some 27), none, .mv (.t 26)⟩,
              ⟨(some 28), (some (27, false)), .mv (.t 6)⟩,
              ⟨(some 29), (some (27, false)), .mv (.t 0)⟩,
              ⟨(some 30), (some (27, false)), .len (.t 29)⟩,
              ⟨(some 31), (some (27, false)), .bin .eql (.t 28) (.t 30)⟩,
              ⟨(some 32), (some (27, false)), .mv (.t 31)⟩,
              ⟨(some 33), (some (32, true)), .fad 1 (.t 9)⟩,
              ⟨(some 34), (some (32, true)), .ld 1 false (.t 33)⟩,
              ⟨(some 35), (some (32, true)), .mv (.t 6)⟩,
              ⟨(some 36), (some (32, true)), .bin .gtr (.t 34) (.t 35)⟩,
              ⟨(some 37), (some (27, false)), .pick (.t 32) (.t 36) (.c (.bool false))⟩,
              ⟨(some 38), none, .pick (.t 27) (.c (.bool true)) (.t 37)⟩,
              ⟨(some 10), none, .asn (.t 38)⟩]) (
           .seq (
            .seq (
             .reg none [⟨(some 39), none, .mv (.t 10)⟩,
               ⟨(some 40), none, .mv (.t 39)⟩,
               ⟨(some 41), (some (40, true)), .fad 0 (.t 9)⟩,
               ⟨(some 42), (some (40, true)), .ld 1 false (.t 41)⟩,
               ⟨(some 43), (some (40, true)), .bin .eql (.t 42) (.c (.int .i64 (1)))⟩,
               ⟨(some 44), none, .pick (.t 40) (.t 43) (.c (.bool false))⟩]) (
            .cond (.t 44) (
             .reg none [⟨(some 45), none, .mv (.t 5)⟩,
               ⟨(some 46), none, .fad 2 (.t 9)⟩,
               ⟨(some 47), none, .ld 1 false (.t 46)⟩,
               ⟨(some 48), none, .bls 3 1 false [(.t 47)]⟩,
               ⟨(some 49), none, .app 3 1 8 false (.t 45) (.t 48)⟩,
               ⟨(some 5), none, .asn (.t 49)⟩]) (
             .skip))) (
           .reg none [⟨(some 50), none, .mv (.t 7)⟩,
             ⟨(some 51), none, .mv (.t 50)⟩,
             ⟨(some 52), (some (51, false)), .fad 1 (.t 9)⟩,
             ⟨(some 53), (some (51, false)), .ld 1 false (.t 52)⟩,
             ⟨(some 54), (some (51, false)), .mv (.t 6)⟩,
             ⟨(some 55), (some (51, false)), .bin .eql (.t 53) (.t 54)⟩,
             ⟨(some 56), (some (51, false)), .mv (.t 55)⟩,
             ⟨(some 57), (some (56, true)), .fad 0 (.t 9)⟩,
             ⟨(some 58), (some (56, true)), .ld 1 false (.t 57)⟩,
             ⟨(some 59), (some (56, true)), .bin .eql (.t 58) (.c (.int .i64 (0)))⟩,
             ⟨(some 60), (some (51, false)), .pick (.t 56) (.t 59) (.c (.bool false))⟩,
             ⟨(some 61), none, .pick (.t 51) (.c (.bool true)) (.t 60)⟩,
             ⟨(some 7), none, .asn (.t 61)⟩]))))) (
         .reg none [⟨(some 62), none, .bin .add (.t 19) (.c (.int .i64 (1)))⟩,
           ⟨(some 19), none, .mv (.t 62)⟩]))))))) (
      .seq (
       .reg none [⟨(some 63), none, .mv (.t 6)⟩,
         ⟨(some 64), none, .mv (.t 0)⟩,
         ⟨(some 65), none, .len (.t 64)⟩,
         ⟨(some 66), none, .bin .lss (.t 63) (.t 65)⟩,
         ⟨(some 67), none, .mv (.t 66)⟩,
         ⟨(some 68), (some (67, true)), .mv (.t 7)⟩,
         ⟨(some 69), (some (67, true)), .not (.t 68)⟩,
         ⟨(some 70), none, .pick (.t 67) (.t 69) (.c (.bool false))⟩]) (
      .cond (.t 70) (
       .reg none [⟨(some 71), none, .mv (.t 5)⟩,
         ⟨(some 72), none, .mv (.t 0)⟩,
         ⟨(some 73), none, .mv (.t 6)⟩,
         ⟨(some 74), none, .iad 1 (.t 72) (.t 73)⟩,
         ⟨(some 75), none, .ld 1 false (.t 74)⟩,
         ⟨(some 76), none, .bls 3 1 false [(.t 75)]⟩,
         ⟨(some 77), none, .app 3 1 8 false (.t 71) (.t 76)⟩,
         ⟨(some 5), none, .asn (.t 77)⟩]) (
       .skip)))))) (
    .reg none [⟨(some 15), none, .mv (.t 6)⟩,
      ⟨(some 16), none, .bin .add (.t 15) (.c (.int .i64 (1)))⟩,
      ⟨(some 6), none, .asn (.t 16)⟩])))))) (
 .seq (
  .reg none [⟨(some 78), none, .mv (.t 5)⟩,
    ⟨(some 4), none, .asn (.t 78)⟩]) (
 .ret))))
def r_impl_Repaired : Nat × List RV := (79, [.t 4])

theorem c_impl_Repaired : cmpS PT PF PA (Try.prog.funcs[16]?) = some (r_impl_Repaired.1, r_impl_Repaired.2, stripK k_impl_Repaired) := by kernel_rfl

set_option maxRecDepth 100000 in
set_option maxHeartbeats 16000000 in
theorem h_impl_Repaired (ws : List Int) (es : List TErr) (hw : ws.length ≤ 1048576) (he : es.length ≤ 1048576) : CallsF Try.prog 16 [.one (.ar false 0 1 (ws.map rI)), .one (.ar false 0 3 (es.map sErr))] (.one (.ar true 3 1 ((repaired ws es).map rI))) := by
  refine Prun c_impl_Repaired (by simp [r_impl_Repaired]) (by simp) ?_
  unfold k_impl_Repaired r_impl_Repaired
  simp
  refine awp_loop (fun n σ => ∃ i : Nat, i ≤ ws.length + 1 ∧ n = ws.length + 1 - i ∧ σ = ⟨[(0, .one (.ar false 0 1 (ws.map rI))), (1, .one (.ar false 0 3 (es.map sErr))), (5, .one (.vw 3 1 5 [] 0 (repTo ws es i).length)), (6, aI i)], [(5, ⟨3, 1, (repTo ws es i).map rI⟩)]⟩) (ws.length + 1) ⟨0, by simp [repTo]⟩ ?_
  rintro n σ ⟨i, hi, rfl, rfl⟩
  by_cases h : (i : Int) ≤ ws.length
  · simp [h]
    have hlen := repTo_len ws es i (by omega)
    have hcnt := List.countP_le_length (p := fun e : TErr => decide (e.pos < (i : Int))) (l := es)
    have hrs : repTo ws es (i + 1) = repTo ws es i ++ insE es i ws.length ++ (if i < ws.length ∧ es.any (skpE i) = false then [ws.getD i 0] else []) := rfl
    refine awp_loop (fun n σ => ∃ j : Nat, j ≤ es.length ∧ n = es.length - j ∧ σ = ⟨[(0, .one (.ar false 0 1 (ws.map rI))), (1, .one (.ar false 0 3 (es.map sErr))), (5, .one (.vw 3 1 5 [] 0 (repTo ws es i ++ insE (es.take j) i ws.length).length)), (6, aI i), (7, aB ((es.take j).any (skpE i))), (17, .one (.ar false 0 3 (es.map sErr))), (18, aI es.length), (19, aI j)], [(5, ⟨3, 1, (repTo ws es i ++ insE (es.take j) i ws.length).map rI⟩)]⟩) es.length ⟨0, by simp [insE]⟩ ?_
    rintro n σ ⟨j, hj, rfl, rfl⟩
    have hl2 : (insE (es.take j) i ws.length).length ≤ es.length := by
      simp only [insE, List.length_map]
      have := List.length_filter_le (addE (i : Int) ws.length) (es.take j)
      simp at this; omega
    by_cases h2 : j < es.length
    · have hbN : (repTo ws es i).length + (insE (es.take j) i ws.length).length + 1 ≤ 4294967296 := by omega
      have w1 : IntKind.i64.wrap ((j : Int) + 1) = j + 1 := wrapI (by omega) (by omega)
      have hi1 := insE_step (i := (i : Int)) (n := ws.length) h2
      have ha1 := any_step (i := (i : Int)) h2
      generalize hB : (es.take j).any (skpE i) = B at *
      generalize hL : repTo ws es i = L1 at *
      generalize hM : insE (es.take j) i ws.length = L2 at *
      have hT : List.take (L1.length + L2.length) (List.map rI L1 ++ List.map rI L2) = List.map rI L1 ++ List.map rI L2 := List.take_of_length_le (by simp)
      rcases ee : es[j] with ⟨e1, e2, e3⟩
      simp only [ee, addE, hereE, skpE] at hi1 ha1
      have hfin : ∀ {Q : Prop}, (∀ m, m = es.length - (j + 1) → m < es.length - j → Q) → Q := fun h => h _ rfl (by omega)
      by_cases q2 : i = ws.length
      · subst q2
        by_cases q1 : e2 = (ws.length : Int)
        · have q3 : ¬ (ws.length : Int) < e2 := by omega
          by_cases k1 : e1 = 1
          · have k2 : ¬ e1 = 0 := by omega
            cases B <;>
              (simp [k1, k2, q1, q3] at hi1 ha1
               simp [h2, ee, sErr, k1, k2, q1, q3, hbN, w1]
               refine ⟨es.length - (j + 1), by omega, j + 1, by omega, rfl, ?_⟩
               simp [hi1, ha1, Nat.add_assoc]
               try first | exact ha1 | exact ⟨ha1, by rw [hT]; simp [rI]⟩ | (rw [hT]; simp [rI]))
          · by_cases k2 : e1 = 0 <;> cases B <;>
              (simp [k1, k2, q1, q3] at hi1 ha1
               simp [h2, ee, sErr, k1, k2, q1, q3, hbN, w1]
               refine ⟨es.length - (j + 1), by omega, j + 1, by omega, rfl, ?_⟩
               simp [hi1, ha1, Nat.add_assoc]
               try first | exact ha1 | exact ⟨ha1, by rw [hT]; simp [rI]⟩ | (rw [hT]; simp [rI]))
        · by_cases q3 : (ws.length : Int) < e2
          · skip
            by_cases k1 : e1 = 1
            · have k2 : ¬ e1 = 0 := by omega
              cases B <;>
                (simp [k1, k2, q1, q3] at hi1 ha1
                 simp [h2, ee, sErr, k1, k2, q1, q3, hbN, w1]
                 refine ⟨es.length - (j + 1), by omega, j + 1, by omega, rfl, ?_⟩
                 simp [hi1, ha1, Nat.add_assoc]
                 try first | exact ha1 | exact ⟨ha1, by rw [hT]; simp [rI]⟩ | (rw [hT]; simp [rI]))
            · by_cases k2 : e1 = 0 <;> cases B <;>
                (simp [k1, k2, q1, q3] at hi1 ha1
                 simp [h2, ee, sErr, k1, k2, q1, q3, hbN, w1]
                 refine ⟨es.length - (j + 1), by omega, j + 1, by omega, rfl, ?_⟩
                 simp [hi1, ha1, Nat.add_assoc]
                 try first | exact ha1 | exact ⟨ha1, by rw [hT]; simp [rI]⟩ | (rw [hT]; simp [rI]))
          · skip
            by_cases k1 : e1 = 1
            · have k2 : ¬ e1 = 0 := by omega
              cases B <;>
                (simp [k1, k2, q1, q3] at hi1 ha1
                 simp [h2, ee, sErr, k1, k2, q1, q3, hbN, w1]
                 refine ⟨es.length - (j + 1), by omega, j + 1, by omega, rfl, ?_⟩
                 simp [hi1, ha1, Nat.add_assoc]
                 try first | exact ha1 | exact ⟨ha1, by rw [hT]; simp [rI]⟩ | (rw [hT]; simp [rI]))
            · by_cases k2 : e1 = 0 <;> cases B <;>
                (simp [k1, k2, q1, q3] at hi1 ha1
                 simp [h2, ee, sErr, k1, k2, q1, q3, hbN, w1]
                 refine ⟨es.length - (j + 1), by omega, j + 1, by omega, rfl, ?_⟩
                 simp [hi1, ha1, Nat.add_assoc]
                 try first | exact ha1 | exact ⟨ha1, by rw [hT]; simp [rI]⟩ | (rw [hT]; simp [rI]))
      · have q4 : ¬ (i : Int) = ws.length := by omega
        by_cases q1 : e2 = (i : Int)
        · have q3 : ¬ (i : Int) < e2 := by omega
          by_cases k1 : e1 = 1
          · have k2 : ¬ e1 = 0 := by omega
            cases B <;>
              (simp [k1, k2, q1, q3, q2, q4] at hi1 ha1
               simp [h2, ee, sErr, k1, k2, q1, q3, q2, q4, hbN, w1]
               refine ⟨es.length - (j + 1), by omega, j + 1, by omega, rfl, ?_⟩
               simp [hi1, ha1, Nat.add_assoc]
               try first | exact ha1 | exact ⟨ha1, by rw [hT]; simp [rI]⟩ | (rw [hT]; simp [rI]))
          · by_cases k2 : e1 = 0 <;> cases B <;>
              (simp [k1, k2, q1, q3, q2, q4] at hi1 ha1
               simp [h2, ee, sErr, k1, k2, q1, q3, q2, q4, hbN, w1]
               refine ⟨es.length - (j + 1), by omega, j + 1, by omega, rfl, ?_⟩
               simp [hi1, ha1, Nat.add_assoc]
               try first | exact ha1 | exact ⟨ha1, by rw [hT]; simp [rI]⟩ | (rw [hT]; simp [rI]))
        · by_cases q3 : (i : Int) < e2
          · skip
            by_cases k1 : e1 = 1
            · have k2 : ¬ e1 = 0 := by omega
              cases B <;>
                (simp [k1, k2, q1, q3, q2, q4] at hi1 ha1
                 simp [h2, ee, sErr, k1, k2, q1, q3, q2, q4, hbN, w1]
                 refine ⟨es.length - (j + 1), by omega, j + 1, by omega, rfl, ?_⟩
                 simp [hi1, ha1, Nat.add_assoc]
                 try first | exact ha1 | exact ⟨ha1, by rw [hT]; simp [rI]⟩ | (rw [hT]; simp [rI]))
            · by_cases k2 : e1 = 0 <;> cases B <;>
                (simp [k1, k2, q1, q3, q2, q4] at hi1 ha1
                 simp [h2, ee, sErr, k1, k2, q1, q3, q2, q4, hbN, w1]
                 refine ⟨es.length - (j + 1), by omega, j + 1, by omega, rfl, ?_⟩
                 simp [hi1, ha1, Nat.add_assoc]
                 try first | exact ha1 | exact ⟨ha1, by rw [hT]; simp [rI]⟩ | (rw [hT]; simp [rI]))
          · skip
            by_cases k1 : e1 = 1
            · have k2 : ¬ e1 = 0 := by omega
              cases B <;>
                (simp [k1, k2, q1, q3, q2, q4] at hi1 ha1
                 simp [h2, ee, sErr, k1, k2, q1, q3, q2, q4, hbN, w1]
                 refine ⟨es.length - (j + 1), by omega, j + 1, by omega, rfl, ?_⟩
                 simp [hi1, ha1, Nat.add_assoc]
                 try first | exact ha1 | exact ⟨ha1, by rw [hT]; simp [rI]⟩ | (rw [hT]; simp [rI]))
            · by_cases k2 : e1 = 0 <;> cases B <;>
                (simp [k1, k2, q1, q3, q2, q4] at hi1 ha1
                 simp [h2, ee, sErr, k1, k2, q1, q3, q2, q4, hbN, w1]
                 refine ⟨es.length - (j + 1), by omega, j + 1, by omega, rfl, ?_⟩
                 simp [hi1, ha1, Nat.add_assoc]
                 try first | exact ha1 | exact ⟨ha1, by rw [hT]; simp [rI]⟩ | (rw [hT]; simp [rI]))
    · have : j = es.length := by omega
      subst this
      rw [List.take_length] at *
      have hbN : (repTo ws es i).length + (insE es i ws.length).length + 1 ≤ 4294967296 := by omega
      have w1 : IntKind.i64.wrap ((i : Int) + 1) = i + 1 := wrapI (by omega) (by omega)
      generalize hB : es.any (skpE i) = B at *
      generalize hL : repTo ws es i = L1 at *
      generalize hM : insE es i ws.length = L2 at *
      have hT : List.take (L1.length + L2.length) (List.map rI L1 ++ List.map rI L2) = List.map rI L1 ++ List.map rI L2 := List.take_of_length_le (by simp)
      cases B <;> by_cases q2 : i < ws.length <;>
        (simp [h2, q2, hbN, w1]
         refine ⟨ws.length + 1 - (i + 1), by omega, i + 1, by omega, rfl, ?_⟩
         simp [hrs, hT, q2, Nat.add_assoc])
  · have : i = ws.length + 1 := by omega
    subst this
    have h' : ¬ ((ws.length : Int) + 1 ≤ ws.length) := by omega
    simp [h', repaired]
end Go.Am
-- Err_to1
namespace Go.Am
open Go.Proofs
set_option maxHeartbeats 4000000
-- 46 loop.example/g00485/laws.toErr
def k_laws_toErr : K :=
 .seq (
  .reg none [⟨(some 1), none, .box 77 3 (.t 0)⟩,
    ⟨(some 2), none, .alc 75 3 [(.int .i64 (0)), (.int .i64 (0)), (.int .i64 (0))]⟩]) (
 .seq (
  .reg none [⟨(some 3), none, .alc 75 3 [(.int .i64 (0)), (.int .i64 (0)), (.int .i64 (0))]⟩]) (
 .seq (
  .reg none [⟨(some 4), none, .fad 0 (.t 1)⟩,
    ⟨(some 5), none, .ld 1 false (.t 4)⟩,
    ⟨(some 6), none, .fad 0 (.t 3)⟩,
    ⟨none, none, .st 1 false (.t 6) (.t 5)⟩]) (
 .seq (
  .reg none [⟨(some 7), none, .fad 1 (.t 1)⟩,
    ⟨(some 8), none, .ld 1 false (.t 7)⟩,
    ⟨(some 9), none, .fad 1 (.t 3)⟩,
    ⟨none, none, .st 1 false (.t 9) (.t 8)⟩]) (
 .seq (
  .reg none [⟨(some 10), none, .fad 2 (.t 1)⟩,
    ⟨(some 11), none, .ld 1 false (.t 10)⟩,
    ⟨(some 12), none, .fad 2 (.t 3)⟩,
    ⟨none, none, .st 1 false (.t 12) (.t 11)⟩]) (
 .seq (
  .reg none [⟨(some 13), none, .ld 3 true (.t 3)⟩,
    ⟨none, none, .st 3 false (.t 2) (.t 13)⟩]) (
 .ret))))))
def r_laws_toErr : Nat × List RV := (14, [.c 2 3 true])

theorem c_laws_toErr : cmpS PT PF PA (Try.prog.funcs[46]?) = some (r_laws_toErr.1, r_laws_toErr.2, stripK k_laws_toErr) := by kernel_rfl

theorem h_toErr (a : TErr) (ha : wErr a < 2 ^ 31) : CallsF Try.prog 46 [.agg (sErr a)] (.agg (rErr a)) := by
  refine Prun c_laws_toErr (by simp [r_laws_toErr]) (by simp) ?_
  unfold k_laws_toErr r_laws_toErr
  simp only [wErr] at ha
  simp [sErr, rErr]
end Go.Am
-- Err_to
namespace Go.Am
open Go.Proofs
set_option maxHeartbeats 4000000
-- 15 loop.example/g00485/laws.toErrS
def k_laws_toErrS : K :=
 .seq (
  .reg none [⟨(some 2), none, .asn (.c (.ar true 75 3 []))⟩]) (
 .seq (
  .reg none [⟨(some 5), none, .mv (.t 0)⟩,
    ⟨(some 6), none, .len (.t 5)⟩,
    ⟨(some 7), none, .mks 75 3 24 [(.int .i64 (0)), (.int .i64 (0)), (.int .i64 (0))] (.t 6) (.t 6)⟩,
    ⟨(some 3), none, .asn (.t 7)⟩]) (
 .seq (
  .seq (
   .reg none [⟨(some 4), none, .asn (.c (.int .i64 (0)))⟩]) (
  .block 0 (
   .loop (some ([0, 3, 4], [0, 3, 4, 1000])) (
    .seq (
     .seq (
      .reg none [⟨(some 8), none, .mv (.t 4)⟩,
        ⟨(some 9), none, .mv (.t 0)⟩,
        ⟨(some 10), none, .len (.t 9)⟩,
        ⟨(some 11), none, .bin .lss (.t 8) (.t 10)⟩]) (
     .cond (.t 11) (
      .skip) (
      .exit 0))) (
    .seq (
     .block 1 (
      .reg none [⟨(some 14), none, .mv (.t 3)⟩,
        ⟨(some 15), none, .mv (.t 4)⟩,
        ⟨(some 16), none, .mv (.t 0)⟩,
        ⟨(some 17), none, .mv (.t 4)⟩,
        ⟨(some 18), none, .iad 3 (.t 16) (.t 17)⟩,
        ⟨(some 19), none, .ld 3 true (.t 18)⟩,
        ⟨(some 20), none, .call 46 [(.t 19)]⟩,
        ⟨(some 21), none, .iad 3 (.t 14) (.t 15)⟩,
        ⟨none, none, .st 3 false (.t 21) (.t 20)⟩])) (
    .reg none [⟨(some 12), none, .mv (.t 4)⟩,
      ⟨(some 13), none, .bin .add (.t 12) (.c (.int .i64 (1)))⟩,
      ⟨(some 4), none, .asn (.t 13)⟩])))))) (
 .seq (
  .reg none [⟨(some 22), none, .mv (.t 3)⟩,
    ⟨(some 2), none, .asn (.t 22)⟩]) (
 .ret))))
def r_laws_toErrS : Nat × List RV := (23, [.t 2])

theorem c_laws_toErrS : cmpS PT PF PA (Try.prog.funcs[15]?) = some (r_laws_toErrS.1, r_laws_toErrS.2, stripK k_laws_toErrS) := by kernel_rfl

theorem h_toErrS (xs : List TErr) (hx : wL wErr xs < 2 ^ 31) : CallsF Try.prog 15 [.one (.ar false 0 3 (xs.map sErr))] (.one (.ar true 75 3 (xs.map rErr))) := by
  refine Prun c_laws_toErrS (by simp [r_laws_toErrS]) (by simp) ?_
  unfold k_laws_toErrS r_laws_toErrS
  have hlen := wL_len wErr xs
  have hc : ((xs.length : Int) ≤ 4294967296) := by omega
  simp [hc]
  refine awp_loop (fun n σ => ∃ i : Nat, i ≤ xs.length ∧ n = xs.length - i ∧ σ = ⟨[(0, .one (.ar false 0 3 (xs.map sErr))), (3, .one (.vw 75 3 3 [] 0 xs.length)), (4, aI i)], [(3, ⟨75, 3, part rErr zErr xs i⟩)]⟩) (xs.length) ⟨0, by simp [part_zero, zErr]⟩ ?_
  rintro n σ ⟨i, hi, rfl, rfl⟩
  by_cases h : i < xs.length
  · have hw := wL_get wErr xs i h
    have := part_set (r := rErr) (z := zErr) h
    simp [h, sErr]
    refine callG_F (h_toErr xs[i] (by omega)) (by simp) ?_
    simp [h, part_get h, rErr, zErr]
    refine ⟨xs.length - (i + 1), by omega, i + 1, by omega, rfl, ?_⟩
    rw [wrapI (by omega) (by omega)]
    simp only [rErr, zErr] at this
    simp [rErr, zErr, this]
  · have : i = xs.length := by omega
    subst this
    simp [part_all]
end Go.Am
-- Err_eq1
namespace Go.Am
open Go.Proofs
set_option maxHeartbeats 4000000
-- 47 loop.example/g00485/laws.eqErr
def k_laws_eqErr : K :=
 .seq (
  .reg none [⟨(some 2), none, .box 75 3 (.t 0)⟩,
    ⟨(some 3), none, .box 75 3 (.t 1)⟩,
    ⟨(some 4), none, .asn (.c (.bool false))⟩]) (
 .seq (
  .seq (
   .reg none [⟨(some 5), none, .fad 0 (.t 2)⟩,
     ⟨(some 6), none, .ld 1 false (.t 5)⟩,
     ⟨(some 7), none, .fad 0 (.t 3)⟩,
     ⟨(some 8), none, .ld 1 false (.t 7)⟩,
     ⟨(some 9), none, .bin .neq (.t 6) (.t 8)⟩]) (
  .cond (.t 9) (
   .seq (
    .reg none [⟨(some 4), none, .asn (.c (.bool false))⟩]) (
   .ret)) (
   .skip))) (
 .seq (
  .seq (
   .reg none [⟨(some 10), none, .fad 1 (.t 2)⟩,
     ⟨(some 11), none, .ld 1 false (.t 10)⟩,
     ⟨(some 12), none, .fad 1 (.t 3)⟩,
     ⟨(some 13), none, .ld 1 false (.t 12)⟩,
     ⟨(some 14), none, .bin .neq (.t 11) (.t 13)⟩]) (
  .cond (.t 14) (
   .seq (
    .reg none [⟨(some 4), none, .asn (.c (.bool false))⟩]) (
   .ret)) (
   .skip))) (
 .seq (
  .seq (
   .reg none [⟨(some 15), none, .fad 2 (.t 2)⟩,
     ⟨(some 16), none, .ld 1 false (.t 15)⟩,
     ⟨(some 17), none, .fad 2 (.t 3)⟩,
     ⟨(some 18), none, .ld 1 false (.t 17)⟩,
     ⟨(some 19), none, .bin .neq (.t 16) (.t 18)⟩]) (
  .cond (.t 19) (
   .seq (
    .reg none [⟨(some 4), none, .asn (.c (.bool false))⟩]) (
   .ret)) (
   .skip))) (
 .seq (
  .reg none [⟨(some 4), none, .asn (.c (.bool true))⟩]) (
 .ret)))))
def r_laws_eqErr : Nat × List RV := (20, [.t 4])

theorem c_laws_eqErr : cmpS PT PF PA (Try.prog.funcs[47]?) = some (r_laws_eqErr.1, r_laws_eqErr.2, stripK k_laws_eqErr) := by kernel_rfl

theorem h_eqErr (a : TErr) (ha : wErr a < 2 ^ 40) : CallsF Try.prog 47 [.agg (sErr a), .agg (sErr a)] (aB true) := by
  refine Prun c_laws_eqErr (by simp [r_laws_eqErr]) (by simp) ?_
  unfold k_laws_eqErr r_laws_eqErr
  simp only [wErr] at ha
  simp [sErr]
end Go.Am
-- Err_eq
namespace Go.Am
open Go.Proofs
set_option maxHeartbeats 4000000
-- 18 loop.example/g00485/laws.eqErrS
def k_laws_eqErrS : K :=
 .seq (
  .reg none [⟨(some 4), none, .asn (.c (.bool false))⟩]) (
 .seq (
  .seq (
   .reg none [⟨(some 6), none, .mv (.t 0)⟩,
     ⟨(some 7), none, .len (.t 6)⟩,
     ⟨(some 8), none, .mv (.t 1)⟩,
     ⟨(some 9), none, .len (.t 8)⟩,
     ⟨(some 10), none, .bin .neq (.t 7) (.t 9)⟩]) (
  .cond (.t 10) (
   .seq (
    .reg none [⟨(some 4), none, .asn (.c (.bool false))⟩]) (
   .ret)) (
   .skip))) (
 .seq (
  .seq (
   .reg none [⟨(some 5), none, .asn (.c (.int .i64 (0)))⟩]) (
  .block 0 (
   .loop (some ([0, 1, 5], [0, 1, 5, 1000])) (
    .seq (
     .seq (
      .reg none [⟨(some 11), none, .mv (.t 5)⟩,
        ⟨(some 12), none, .mv (.t 0)⟩,
        ⟨(some 13), none, .len (.t 12)⟩,
        ⟨(some 14), none, .bin .lss (.t 11) (.t 13)⟩]) (
     .cond (.t 14) (
      .skip) (
      .exit 0))) (
    .seq (
     .block 1 (
      .seq (
       .drw none 10 [⟨(some 17), none, .mv (.t 0)⟩,
         ⟨(some 18), none, .mv (.t 5)⟩,
         ⟨(some 19), none, .iad 3 (.t 17) (.t 18)⟩,
         ⟨(some 20), none, .ld 3 true (.t 19)⟩,
         ⟨(some 21), none, .mv (.t 1)⟩,
         ⟨(some 22), none, .mv (.t 5)⟩,
         ⟨(some 23), none, .iad 3 (.t 21) (.t 22)⟩,
         ⟨(some 24), none, .ld 3 true (.t 23)⟩,
         ⟨(some 25), none, .call 47 [(.t 20), (.t 24)]⟩,
         ⟨(some 26), none, .not (.t 25)⟩]) (
      .cond (.t 26) (
       .seq (
        .reg none [⟨(some 4), none, .asn (.c (.bool false))⟩]) (
       .ret)) (
       .skip)))) (
    .reg none [⟨(some 15), none, .mv (.t 5)⟩,
      ⟨(some 16), none, .bin .add (.t 15) (.c (.int .i64 (1)))⟩,
      ⟨(some 5), none, .asn (.t 16)⟩])))))) (
 .seq (
  .reg none [⟨(some 4), none, .asn (.c (.bool true))⟩]) (
 .ret))))
def r_laws_eqErrS : Nat × List RV := (27, [.t 4])

theorem c_laws_eqErrS : cmpS PT PF PA (Try.prog.funcs[18]?) = some (r_laws_eqErrS.1, r_laws_eqErrS.2, stripK k_laws_eqErrS) := by kernel_rfl

theorem h_eqErrS (xs : List TErr) (hx : wL wErr xs < 2 ^ 40) : CallsF Try.prog 18 [.one (.ar false 0 3 (xs.map sErr)), .one (.ar false 0 3 (xs.map sErr))] (aB true) := by
  refine Prun c_laws_eqErrS (by simp [r_laws_eqErrS]) (by simp) ?_
  unfold k_laws_eqErrS r_laws_eqErrS
  have hlen := wL_len wErr xs
  simp
  refine awp_loop (fun n σ => ∃ i : Nat, i ≤ xs.length ∧ n = xs.length - i ∧ σ = ⟨[(0, .one (.ar false 0 3 (xs.map sErr))), (1, .one (.ar false 0 3 (xs.map sErr))), (5, aI i)], []⟩) (xs.length) ⟨0, by simp⟩ ?_
  rintro n σ ⟨i, hi, rfl, rfl⟩
  by_cases h : i < xs.length
  · have hw := wL_get wErr xs i h
    simp [h, sErr]
    refine ⟨_, by simp, h_eqErr xs[i] (by omega), ?_⟩
    simp
    refine ⟨xs.length - (i + 1), by omega, i + 1, by omega, rfl, ?_⟩
    rw [wrapI (by omega) (by omega)]
    simp
  · simp [h]
end Go.Am
-- Err_sz
namespace Go.Am
open Go.Proofs
set_option maxHeartbeats 4000000
-- 12 loop.example/g00485/laws.szErrS
def k_laws_szErrS : K :=
 .seq (
  .reg none [⟨(some 4), none, .asn (.c (.int .i64 (0)))⟩]) (
 .seq (
  .reg none [⟨(some 5), none, .mv (.t 1)⟩,
    ⟨(some 6), none, .mv (.t 0)⟩,
    ⟨(some 7), none, .len (.t 6)⟩,
    ⟨(some 8), none, .bin .sub (.t 5) (.t 7)⟩,
    ⟨(some 1), none, .asn (.t 8)⟩]) (
 .seq (
  .seq (
   .reg none [⟨(some 9), none, .mv (.t 1)⟩,
     ⟨(some 10), none, .bin .lss (.t 9) (.c (.int .i64 (0)))⟩]) (
  .cond (.t 10) (
   .seq (
    .reg none [⟨(some 4), none, .asn (.c (.int .i64 (-1)))⟩]) (
   .ret)) (
   .skip))) (
 .seq (
  .reg none [⟨(some 11), none, .mv (.t 1)⟩,
    ⟨(some 4), none, .asn (.t 11)⟩]) (
 .ret))))
def r_laws_szErrS : Nat × List RV := (12, [.t 4])

theorem c_laws_szErrS : cmpS PT PF PA (Try.prog.funcs[12]?) = some (r_laws_szErrS.1, r_laws_szErrS.2, stripK k_laws_szErrS) := by kernel_rfl

theorem wL_wErr : ∀ xs : List TErr, wL wErr xs = xs.length
  | [] => rfl
  | x :: xs => by rw [wL, wL_wErr xs, List.length_cons]; simp only [wErr]; omega
theorem h_szErrS (xs : List TErr) (left : Int) (h : lL lErr xs) (h2 : 0 ≤ left) (h3 : left < 2 ^ 40) : CallsF Try.prog 12 [.one (.ar false 0 3 (xs.map sErr)), aI left] (aI (lft left (wL wErr xs))) := by
  refine Prun c_laws_szErrS (by simp [r_laws_szErrS]) (by simp) ?_
  unfold k_laws_szErrS r_laws_szErrS
  have h := h.1
  rw [wL_wErr, lft]
  have hw : IntKind.i64.wrap (left - xs.length) = left - xs.length := wrapI (by omega) (by omega)
  by_cases h : left - xs.length < 0
  · simp [hw, h]
  · simp [hw, h]
end Go.Am
-- intk
namespace Go.Am
open Go.Proofs
set_option maxHeartbeats 4000000
-- 19 loop.example/g00485/laws.markIntS
def k_laws_markIntS : K :=
 .seq (
  .reg none [⟨(some 4), none, .asn (.c (.int .i64 (0)))⟩]) (
 .seq (
  .seq (
   .reg none [⟨(some 5), none, .asn (.c (.int .i64 (0)))⟩]) (
  .block 0 (
   .loop (some ([0, 1, 5], [0, 1, 5, 1000])) (
    .seq (
     .seq (
      .reg none [⟨(some 6), none, .mv (.t 5)⟩,
        ⟨(some 7), none, .mv (.t 0)⟩,
        ⟨(some 8), none, .len (.t 7)⟩,
        ⟨(some 9), none, .bin .lss (.t 6) (.t 8)⟩]) (
     .cond (.t 9) (
      .skip) (
      .exit 0))) (
    .seq (
     .block 1 (
      .seq (
       .reg none [⟨(some 12), none, .mv (.t 0)⟩,
         ⟨(some 13), none, .mv (.t 5)⟩,
         ⟨(some 14), none, .mv (.t 1)⟩,
         ⟨(some 15), none, .iad 1 (.t 12) (.t 13)⟩,
         ⟨none, none, .st 1 false (.t 15) (.t 14)⟩]) (
      .reg none [⟨(some 16), none, .mv (.t 1)⟩,
        ⟨(some 17), none, .bin .add (.t 16) (.c (.int .i64 (1)))⟩,
        ⟨(some 1), none, .asn (.t 17)⟩]))) (
    .reg none [⟨(some 10), none, .mv (.t 5)⟩,
      ⟨(some 11), none, .bin .add (.t 10) (.c (.int .i64 (1)))⟩,
      ⟨(some 5), none, .asn (.t 11)⟩])))))) (
 .seq (
  .reg none [⟨(some 18), none, .mv (.t 1)⟩,
    ⟨(some 4), none, .asn (.t 18)⟩]) (
 .ret)))
def r_laws_markIntS : Nat × List RV := (19, [.t 4])

theorem c_laws_markIntS : cmpS PT PF PB (Try.prog.funcs[19]?) = some (r_laws_markIntS.1, r_laws_markIntS.2, stripK k_laws_markIntS) := by kernel_rfl

theorem h_markIntS (t : Nat) (xs : List Int) (k : Int) (hk : 0 ≤ k) (hk2 : k + mI.nL xs < 2 ^ 50) :
    CallsB Try.prog 19 [.one (.vw t 1 1000 [] 0 xs.length), aI k] ⟨t, 1, xs.map rI⟩ ⟨t, 1, (mI.mkL xs k).map rI⟩ (aI (k + mI.nL xs)) := by
  refine PrunB c_laws_markIntS (by simp [r_laws_markIntS]) (by simp) ?_
  unfold k_laws_markIntS r_laws_markIntS
  have hn : (mI.nL xs : Int) = xs.length := by simp [mI_n]
  simp
  refine awp_loop (fun n σ => ∃ i : Nat, i ≤ xs.length ∧ n = xs.length - i ∧ σ = ⟨[(0, .one (.vw t 1 1000 [] 0 xs.length)), (1, aI (mI.pos xs k i)), (5, aI i)], [(1000, ⟨t, 1, (mI.upto xs k i).map rI⟩)]⟩) (xs.length) ⟨0, by simp [Mk.upto_zero, Mk.pos_zero]⟩ ?_
  rintro n σ ⟨i, hi, rfl, rfl⟩
  have hp1 : mI.pos xs k i ≤ k + mI.nL xs := Mk.pos_le hi
  have hp2 : k ≤ mI.pos xs k i := Mk.pos_ge
  by_cases h : i < xs.length
  · have hpst : mI.pos xs k (i + 1) = mI.pos xs k i + 1 := Mk.pos_step h
    have hst := Mk.upto_set (M := mI) (k := k) h
    have hle : mI.pos xs k (i + 1) ≤ k + mI.nL xs := Mk.pos_le h
    have w1 : IntKind.i64.wrap (mI.pos xs k i + 1) = mI.pos xs k (i + 1) := by rw [wrapI (by omega) (by omega), hpst]
    have w2 : IntKind.i64.wrap ((i : Int) + 1) = i + 1 := wrapI (by omega) (by omega)
    simp [h, w1, w2]
    refine ⟨xs.length - (i + 1), by omega, i + 1, by omega, rfl, ?_⟩
    rw [← hst]
    simp
  · have : i = xs.length := by omega
    subst this
    simp [Mk.upto_all, Mk.pos_all]
end Go.Am
-- Err_mk
namespace Go.Am
open Go.Proofs
set_option maxHeartbeats 4000000
-- 20 loop.example/g00485/laws.markErrS
def k_laws_markErrS : K :=
 .seq (
  .reg none [⟨(some 4), none, .asn (.c (.int .i64 (0)))⟩]) (
 .seq (
  .seq (
   .reg none [⟨(some 5), none, .asn (.c (.int .i64 (0)))⟩]) (
  .block 0 (
   .loop (some ([0, 1, 5], [0, 1, 5, 1000])) (
    .seq (
     .seq (
      .reg none [⟨(some 6), none, .mv (.t 5)⟩,
        ⟨(some 7), none, .mv (.t 0)⟩,
        ⟨(some 8), none, .len (.t 7)⟩,
        ⟨(some 9), none, .bin .lss (.t 6) (.t 8)⟩]) (
     .cond (.t 9) (
      .skip) (
      .exit 0))) (
    .seq (
     .block 1 (
      .seq (
       .reg none [⟨(some 12), none, .mv (.t 0)⟩,
         ⟨(some 13), none, .mv (.t 5)⟩,
         ⟨(some 14), none, .mv (.t 1)⟩,
         ⟨(some 15), none, .iad 3 (.t 12) (.t 13)⟩,
         ⟨(some 16), none, .fad 0 (.t 15)⟩,
         ⟨none, none, .st 1 false (.t 16) (.t 14)⟩]) (
      .seq (
       .reg none [⟨(some 17), none, .mv (.t 1)⟩,
         ⟨(some 18), none, .bin .add (.t 17) (.c (.int .i64 (1)))⟩,
         ⟨(some 1), none, .asn (.t 18)⟩]) (
      .seq (
       .reg none [⟨(some 19), none, .mv (.t 0)⟩,
         ⟨(some 20), none, .mv (.t 5)⟩,
         ⟨(some 21), none, .mv (.t 1)⟩,
         ⟨(some 22), none, .iad 3 (.t 19) (.t 20)⟩,
         ⟨(some 23), none, .fad 1 (.t 22)⟩,
         ⟨none, none, .st 1 false (.t 23) (.t 21)⟩]) (
      .seq (
       .reg none [⟨(some 24), none, .mv (.t 1)⟩,
         ⟨(some 25), none, .bin .add (.t 24) (.c (.int .i64 (1)))⟩,
         ⟨(some 1), none, .asn (.t 25)⟩]) (
      .seq (
       .reg none [⟨(some 26), none, .mv (.t 0)⟩,
         ⟨(some 27), none, .mv (.t 5)⟩,
         ⟨(some 28), none, .mv (.t 1)⟩,
         ⟨(some 29), none, .iad 3 (.t 26) (.t 27)⟩,
         ⟨(some 30), none, .fad 2 (.t 29)⟩,
         ⟨none, none, .st 1 false (.t 30) (.t 28)⟩]) (
      .reg none [⟨(some 31), none, .mv (.t 1)⟩,
        ⟨(some 32), none, .bin .add (.t 31) (.c (.int .i64 (1)))⟩,
        ⟨(some 1), none, .asn (.t 32)⟩]))))))) (
    .reg none [⟨(some 10), none, .mv (.t 5)⟩,
      ⟨(some 11), none, .bin .add (.t 10) (.c (.int .i64 (1)))⟩,
      ⟨(some 5), none, .asn (.t 11)⟩])))))) (
 .seq (
  .reg none [⟨(some 33), none, .mv (.t 1)⟩,
    ⟨(some 4), none, .asn (.t 33)⟩]) (
 .ret)))
def r_laws_markErrS : Nat × List RV := (34, [.t 4])

theorem c_laws_markErrS : cmpS PT PF PB (Try.prog.funcs[20]?) = some (r_laws_markErrS.1, r_laws_markErrS.2, stripK k_laws_markErrS) := by kernel_rfl

theorem h_markErrS (t : Nat) (xs : List TErr) (k : Int) (hk : 0 ≤ k) (hk2 : k + mErr.nL xs < 2 ^ 50) (hk3 : wL wErr xs < 2 ^ 50) :
    CallsB Try.prog 20 [.one (.vw t 3 1000 [] 0 xs.length), aI k] ⟨t, 3, xs.map rErr⟩ ⟨t, 3, (mErr.mkL xs k).map rErr⟩ (aI (k + mErr.nL xs)) := by
  refine PrunB c_laws_markErrS (by simp [r_laws_markErrS]) (by simp) ?_
  unfold k_laws_markErrS r_laws_markErrS
  have hlen := wL_len wErr xs
  simp
  refine awp_loop (fun n σ => ∃ i : Nat, i ≤ xs.length ∧ n = xs.length - i ∧ σ = ⟨[(0, .one (.vw t 3 1000 [] 0 xs.length)), (1, aI (mErr.pos xs k i)), (5, aI i)], [(1000, ⟨t, 3, (mErr.upto xs k i).map rErr⟩)]⟩) (xs.length) ⟨0, by simp [Mk.upto_zero, Mk.pos_zero]⟩ ?_
  rintro n σ ⟨i, hi, rfl, rfl⟩
  have hp1 : mErr.pos xs k i ≤ k + mErr.nL xs := Mk.pos_le hi
  have hp2 : k ≤ mErr.pos xs k i := Mk.pos_ge
  by_cases h : i < xs.length
  · have hw := wL_get wErr xs i h
    have hpst : mErr.pos xs k (i + 1) = mErr.pos xs k i + mErr.n xs[i] := Mk.pos_step h
    have hle : mErr.pos xs k (i + 1) ≤ k + mErr.nL xs := Mk.pos_le h
    have hst := Mk.upto_set (M := mErr) (k := k) h
    have hga := Mk.upto_at (M := mErr) (k := k) h
    have hll := Mk.upto_len (M := mErr) (xs := xs) (k := k) (i := i)
    generalize mErr.upto xs k i = us at *
    generalize hκ : mErr.pos xs k i = p0 at *
    rcases ha : xs[i] with ⟨bkind, bpos, bsym⟩
    simp only [ha, mErr_n, mErr_wr] at hpst hga hst
    simp only [ha, wErr] at hw
    obtain ⟨p1, hq1⟩ : ∃ p : Int, p = p0 + 1 := ⟨_, rfl⟩
    have ww0 : IntKind.i64.wrap (p0 + 1) = p1 := by rw [wrapI (by omega) (by omega), hq1]
    have nn0 : ¬ p1 < 0 := by omega
    obtain ⟨p2, hq2⟩ : ∃ p : Int, p = p1 + 1 := ⟨_, rfl⟩
    have ww1 : IntKind.i64.wrap (p1 + 1) = p2 := by rw [wrapI (by omega) (by omega), hq2]
    have nn1 : ¬ p2 < 0 := by omega
    obtain ⟨p3, hq3⟩ : ∃ p : Int, p = p2 + 1 := ⟨_, rfl⟩
    have ww2 : IntKind.i64.wrap (p2 + 1) = p3 := by rw [wrapI (by omega) (by omega), hq3]
    have nn2 : ¬ p3 < 0 := by omega
    simp only [← hq1, ← hq2, ← hq3] at hga hst
    simp [h, hga, hll, rErr, ww0, nn0, ww1, nn1, ww2, nn2]
    refine ⟨xs.length - (i + 1), by omega, i + 1, by omega, rfl, ?_⟩
    rw [wrapI (by omega) (by omega)]
    rw [← hst]
    simp [rErr]
    omega
  · have : i = xs.length := by omega
    subst this
    simp [Mk.upto_all, Mk.pos_all]
end Go.Am
-- inth
namespace Go.Am
open Go.Proofs
set_option maxHeartbeats 4000000
-- 21 loop.example/g00485/laws.heldIntS
def k_laws_heldIntS : K :=
 .seq (
  .reg none [⟨(some 4), none, .asn (.c (.int .i64 (0)))⟩]) (
 .seq (
  .seq (
   .reg none [⟨(some 5), none, .asn (.c (.int .i64 (0)))⟩]) (
  .block 0 (
   .loop (some ([0, 1, 5], [0, 1, 5, 1000])) (
    .seq (
     .seq (
      .reg none [⟨(some 6), none, .mv (.t 5)⟩,
        ⟨(some 7), none, .mv (.t 0)⟩,
        ⟨(some 8), none, .len (.t 7)⟩,
        ⟨(some 9), none, .bin .lss (.t 6) (.t 8)⟩]) (
     .cond (.t 9) (
      .skip) (
      .exit 0))) (
    .seq (
     .block 1 (
      .seq (
       .seq (
        .reg none [⟨(some 12), none, .mv (.t 0)⟩,
          ⟨(some 13), none, .mv (.t 5)⟩,
          ⟨(some 14), none, .iad 1 (.t 12) (.t 13)⟩,
          ⟨(some 15), none, .ld 1 false (.t 14)⟩,
          ⟨(some 16), none, .mv (.t 1)⟩,
          ⟨(some 17), none, .bin .neq (.t 15) (.t 16)⟩]) (
       .cond (.t 17) (
        .seq (
         .reg none [⟨(some 4), none, .asn (.c (.int .i64 (-1)))⟩]) (
        .ret)) (
        .skip))) (
      .reg none [⟨(some 18), none, .mv (.t 1)⟩,
        ⟨(some 19), none, .bin .add (.t 18) (.c (.int .i64 (1)))⟩,
        ⟨(some 1), none, .asn (.t 19)⟩]))) (
    .reg none [⟨(some 10), none, .mv (.t 5)⟩,
      ⟨(some 11), none, .bin .add (.t 10) (.c (.int .i64 (1)))⟩,
      ⟨(some 5), none, .asn (.t 11)⟩])))))) (
 .seq (
  .reg none [⟨(some 20), none, .mv (.t 1)⟩,
    ⟨(some 4), none, .asn (.t 20)⟩]) (
 .ret)))
def r_laws_heldIntS : Nat × List RV := (21, [.t 4])

theorem c_laws_heldIntS : cmpS PT PF PA (Try.prog.funcs[21]?) = some (r_laws_heldIntS.1, r_laws_heldIntS.2, stripK k_laws_heldIntS) := by kernel_rfl

theorem h_heldIntS (xs : List Int) (k : Int) (hk : 0 ≤ k) (hk2 : k + mI.nL xs < 2 ^ 50) : CallsF Try.prog 21 [.one (.ar false 0 1 ((mI.mkL xs k).map rI)), aI k] (aI (k + mI.nL xs)) := by
  refine Prun c_laws_heldIntS (by simp [r_laws_heldIntS]) (by simp) ?_
  unfold k_laws_heldIntS r_laws_heldIntS
  simp
  refine awp_loop (fun n σ => ∃ i : Nat, i ≤ xs.length ∧ n = xs.length - i ∧ σ = ⟨[(0, .one (.ar false 0 1 ((mI.mkL xs k).map rI))), (1, aI (mI.pos xs k i)), (5, aI i)], []⟩) (xs.length) ⟨0, by simp [Mk.pos_zero]⟩ ?_
  rintro n σ ⟨i, hi, rfl, rfl⟩
  have hn : (mI.nL xs : Int) = xs.length := by simp [mI_n]
  have hp1 : mI.pos xs k i ≤ k + mI.nL xs := Mk.pos_le hi
  have hp2 : k ≤ mI.pos xs k i := Mk.pos_ge
  by_cases h : i < xs.length
  · have hpst : mI.pos xs k (i + 1) = mI.pos xs k i + 1 := Mk.pos_step h
    have hle : mI.pos xs k (i + 1) ≤ k + mI.nL xs := Mk.pos_le h
    have w1 : IntKind.i64.wrap (mI.pos xs k i + 1) = mI.pos xs k (i + 1) := by rw [wrapI (by omega) (by omega), hpst]
    have w2 : IntKind.i64.wrap ((i : Int) + 1) = i + 1 := wrapI (by omega) (by omega)
    simp [h, Mk.mkL_at h, w1, w2]
    exact ⟨xs.length - (i + 1), by omega, i + 1, by omega, rfl, by simp⟩
  · have : i = xs.length := by omega
    subst this
    simp [Mk.pos_all]
end Go.Am
-- L_Repaired
namespace Go.Am
open Go.Proofs
set_option maxHeartbeats 4000000
theorem repaired_len (ws : List Int) (es : List TErr) : (repaired ws es).length ≤ ws.length + 2 * es.length := by
  have h1 := repTo_len ws es ws.length (by omega)
  have h2 := List.countP_le_length (p := fun e : TErr => decide (e.pos < ((ws.length : Nat) : Int))) (l := es)
  have h3 : (insE es ws.length ws.length).length ≤ es.length := by
    simp only [insE, List.length_map]
    exact List.length_filter_le _ _
  simp only [repaired, repTo, List.length_append]
  simp
  omega
theorem mErr_nL : ∀ xs : List TErr, mErr.nL xs = 3 * xs.length
  | [] => rfl
  | x :: xs => by rw [Mk.nL, mErr_nL xs, List.length_cons, mErr_n]; omega
-- 4 loop.example/g00485/laws.FnExactRepaired
def k_laws_FnExactRepaired : K :=
 .seq (
  .reg none [⟨(some 4), none, .asn (.c (.bool false))⟩]) (
 .seq (
  .seq (
   .reg none [⟨(some 14), none, .mv (.t 0)⟩,
     ⟨(some 15), none, .len (.t 14)⟩,
     ⟨(some 16), none, .bin .gtr (.t 15) (.c (.int .i64 (1048576)))⟩]) (
  .cond (.t 16) (
   .seq (
    .reg none [⟨(some 4), none, .asn (.c (.bool true))⟩]) (
   .ret)) (
   .skip))) (
 .seq (
  .reg none [⟨(some 5), none, .asn (.c (.int .i64 (1048576)))⟩]) (
 .seq (
  .reg none [⟨(some 17), none, .mv (.t 1)⟩,
    ⟨(some 18), none, .mv (.t 5)⟩,
    ⟨(some 19), none, .call 12 [(.t 17), (.t 18)]⟩,
    ⟨(some 5), none, .asn (.t 19)⟩]) (
 .seq (
  .seq (
   .reg none [⟨(some 20), none, .mv (.t 5)⟩,
     ⟨(some 21), none, .bin .lss (.t 20) (.c (.int .i64 (0)))⟩]) (
  .cond (.t 21) (
   .seq (
    .reg none [⟨(some 4), none, .asn (.c (.bool true))⟩]) (
   .ret)) (
   .skip))) (
 .seq (
  .reg none [⟨(some 22), none, .mv (.t 0)⟩,
    ⟨(some 23), none, .call 14 [(.t 22)]⟩,
    ⟨(some 24), none, .mv (.t 1)⟩,
    ⟨(some 25), none, .call 15 [(.t 24)]⟩,
    ⟨(some 26), none, .call 13 [(.t 23), (.t 25)]⟩,
    ⟨(some 6), none, .asn (.t 26)⟩]) (
 .seq (
  .reg none [⟨(some 27), none, .mv (.t 0)⟩,
    ⟨(some 28), none, .call 14 [(.t 27)]⟩,
    ⟨(some 7), none, .asn (.t 28)⟩]) (
 .seq (
  .reg none [⟨(some 29), none, .mv (.t 1)⟩,
    ⟨(some 30), none, .call 15 [(.t 29)]⟩,
    ⟨(some 8), none, .asn (.t 30)⟩]) (
 .seq (
  .reg none [⟨(some 31), none, .mv (.t 7)⟩,
    ⟨(some 32), none, .mv (.t 8)⟩,
    ⟨(some 33), none, .call 16 [(.t 31), (.t 32)]⟩,
    ⟨(some 9), none, .asn (.t 33)⟩]) (
 .seq (
  .seq (
   .reg none [⟨(some 34), none, .mv (.t 9)⟩,
     ⟨(some 35), none, .mv (.t 6)⟩,
     ⟨(some 36), none, .call 17 [(.t 34), (.t 35)]⟩,
     ⟨(some 37), none, .not (.t 36)⟩]) (
  .cond (.t 37) (
   .seq (
    .reg none [⟨(some 4), none, .asn (.c (.bool false))⟩]) (
   .ret)) (
   .skip))) (
 .seq (
  .seq (
   .reg none [⟨(some 38), none, .mv (.t 7)⟩,
     ⟨(some 39), none, .mv (.t 0)⟩,
     ⟨(some 40), none, .call 14 [(.t 39)]⟩,
     ⟨(some 41), none, .call 17 [(.t 38), (.t 40)]⟩,
     ⟨(some 42), none, .not (.t 41)⟩]) (
  .cond (.t 42) (
   .seq (
    .reg none [⟨(some 4), none, .asn (.c (.bool false))⟩]) (
   .ret)) (
   .skip))) (
 .seq (
  .seq (
   .reg none [⟨(some 43), none, .mv (.t 8)⟩,
     ⟨(some 44), none, .mv (.t 1)⟩,
     ⟨(some 45), none, .call 15 [(.t 44)]⟩,
     ⟨(some 46), none, .call 18 [(.t 43), (.t 45)]⟩,
     ⟨(some 47), none, .not (.t 46)⟩]) (
  .cond (.t 47) (
   .seq (
    .reg none [⟨(some 4), none, .asn (.c (.bool false))⟩]) (
   .ret)) (
   .skip))) (
 .seq (
  .reg none [⟨(some 10), none, .asn (.c (.int .i64 (1)))⟩]) (
 .seq (
  .reg none [⟨(some 48), none, .mv (.t 7)⟩,
    ⟨(some 49), none, .mv (.t 10)⟩,
    ⟨(some 50), none, .callr 19 (.t 48) [(.t 48), (.t 49)]⟩,
    ⟨(some 10), none, .asn (.t 50)⟩]) (
 .seq (
  .reg none [⟨(some 51), none, .mv (.t 8)⟩,
    ⟨(some 52), none, .mv (.t 10)⟩,
    ⟨(some 53), none, .callr 20 (.t 51) [(.t 51), (.t 52)]⟩,
    ⟨(some 10), none, .asn (.t 53)⟩]) (
 .seq (
  .seq (
   .reg none [⟨(some 54), none, .mv (.t 10)⟩,
     ⟨(some 55), none, .bin .lss (.t 54) (.c (.int .i64 (0)))⟩,
     ⟨(some 56), none, .mv (.t 55)⟩,
     ⟨(some 57), (some (56, false)), .mv (.t 9)⟩,
     ⟨(some 58), (some (56, false)), .mv (.t 6)⟩,
     ⟨(some 59), (some (56, false)), .call 17 [(.t 57), (.t 58)]⟩,
     ⟨(some 60), (some (56, false)), .not (.t 59)⟩,
     ⟨(some 61), none, .pick (.t 56) (.c (.bool true)) (.t 60)⟩]) (
  .cond (.t 61) (
   .seq (
    .reg none [⟨(some 4), none, .asn (.c (.bool false))⟩]) (
   .ret)) (
   .skip))) (
 .seq (
  .reg none [⟨(some 11), none, .asn (.c (.int .i64 (1)))⟩]) (
 .seq (
  .reg none [⟨(some 62), none, .mv (.t 9)⟩,
    ⟨(some 63), none, .mv (.t 11)⟩,
    ⟨(some 64), none, .callr 19 (.t 62) [(.t 62), (.t 63)]⟩,
    ⟨(some 11), none, .asn (.t 64)⟩]) (
 .seq (
  .reg none [⟨(some 12), none, .asn (.c (.int .i64 (1)))⟩]) (
 .seq (
  .reg none [⟨(some 65), none, .mv (.t 9)⟩,
    ⟨(some 66), none, .mv (.t 12)⟩,
    ⟨(some 67), none, .call 21 [(.t 65), (.t 66)]⟩,
    ⟨(some 12), none, .asn (.t 67)⟩]) (
 .seq (
  .seq (
   .reg none [⟨(some 68), none, .mv (.t 12)⟩,
     ⟨(some 69), none, .bin .lss (.t 68) (.c (.int .i64 (0)))⟩]) (
  .cond (.t 69) (
   .seq (
    .reg none [⟨(some 4), none, .asn (.c (.bool false))⟩]) (
   .ret)) (
   .skip))) (
 .seq (
  .seq (
   .reg none [⟨(some 70), none, .mv (.t 12)⟩,
     ⟨(some 71), none, .mv (.t 11)⟩,
     ⟨(some 72), none, .bin .neq (.t 70) (.t 71)⟩]) (
  .cond (.t 72) (
   .seq (
    .reg none [⟨(some 4), none, .asn (.c (.bool false))⟩]) (
   .ret)) (
   .skip))) (
 .seq (
  .reg none [⟨(some 73), none, .mv (.t 0)⟩,
    ⟨(some 74), none, .call 14 [(.t 73)]⟩,
    ⟨(some 75), none, .mv (.t 1)⟩,
    ⟨(some 76), none, .call 15 [(.t 75)]⟩,
    ⟨(some 77), none, .call 16 [(.t 74), (.t 76)]⟩,
    ⟨(some 13), none, .asn (.t 77)⟩]) (
 .seq (
  .seq (
   .reg none [⟨(some 78), none, .mv (.t 13)⟩,
     ⟨(some 79), none, .mv (.t 6)⟩,
     ⟨(some 80), none, .call 17 [(.t 78), (.t 79)]⟩,
     ⟨(some 81), none, .not (.t 80)⟩]) (
  .cond (.t 81) (
   .seq (
    .reg none [⟨(some 4), none, .asn (.c (.bool false))⟩]) (
   .ret)) (
   .skip))) (
 .seq (
  .reg none [⟨(some 12), none, .asn (.c (.int .i64 (1)))⟩]) (
 .seq (
  .reg none [⟨(some 82), none, .mv (.t 9)⟩,
    ⟨(some 83), none, .mv (.t 12)⟩,
    ⟨(some 84), none, .call 21 [(.t 82), (.t 83)]⟩,
    ⟨(some 12), none, .asn (.t 84)⟩]) (
 .seq (
  .seq (
   .reg none [⟨(some 85), none, .mv (.t 12)⟩,
     ⟨(some 86), none, .bin .lss (.t 85) (.c (.int .i64 (0)))⟩]) (
  .cond (.t 86) (
   .seq (
    .reg none [⟨(some 4), none, .asn (.c (.bool false))⟩]) (
   .ret)) (
   .skip))) (
 .seq (
  .seq (
   .reg none [⟨(some 87), none, .mv (.t 12)⟩,
     ⟨(some 88), none, .mv (.t 11)⟩,
     ⟨(some 89), none, .bin .neq (.t 87) (.t 88)⟩]) (
  .cond (.t 89) (
   .seq (
    .reg none [⟨(some 4), none, .asn (.c (.bool false))⟩]) (
   .ret)) (
   .skip))) (
 .seq (
  .reg none [⟨(some 4), none, .asn (.c (.bool true))⟩]) (
 .ret)))))))))))))))))))))))))))))
def r_laws_FnExactRepaired : Nat × List RV := (90, [.t 4])

theorem c_laws_FnExactRepaired : cmpS PT PF PA (Try.prog.funcs[4]?) = some (r_laws_FnExactRepaired.1, r_laws_FnExactRepaired.2, stripK k_laws_FnExactRepaired) := by kernel_rfl

set_option maxRecDepth 100000 in
theorem h_law_Repaired (ws : List Int) (hlw : lL l0 ws) (es : List TErr) (hle : lL lErr es) : CallsF Try.prog 4 [.one (.ar false 0 1 (ws.map rI)), .one (.ar false 0 3 (es.map sErr))] (aB true) := by
  refine Prun c_laws_FnExactRepaired (by simp [r_laws_FnExactRepaired]) (by simp) ?_
  unfold k_laws_FnExactRepaired r_laws_FnExactRepaired
  simp
  by_cases g1 : (1048576 : Int) < (ws.length : Int)
  · simp [g1]
  have hsz := h_szErrS es 1048576 hle (by omega) (by omega)
  simp [g1]
  refine callG_F hsz (by simp) ?_
  rw [wL_wErr]
  by_cases g2 : (1048576 : Int) < (es.length : Int)
  · simp [lft_neg g2]
  have e1 : lft 1048576 es.length = 1048576 - es.length := lft_pos (by omega)
  have n1 : ¬ (1048576 : Int) - es.length < 0 := by omega
  simp [e1, n1]
  have hrl := repaired_len ws es
  have hs := h_spec_Repaired ws es (by omega) (by omega)
  have hi := h_impl_Repaired ws es (by omega) (by omega)
  generalize repaired ws es = rs at *
  have htw := h_toIntS ws (by rw [wL_w0]; omega)
  have hte := h_toErrS es (by rw [wL_wErr]; omega)
  have hew := h_eqIntS ws (by rw [wL_w0]; omega)
  have her := h_eqIntS rs (by rw [wL_w0]; omega)
  have hee := h_eqErrS es (by rw [wL_wErr]; omega)
  have hmw := h_markIntS 3 ws 1 (by omega) (by rw [mI_n]; omega)
  have hme := h_markErrS 75 es (1 + mI.nL ws) (by omega) (by rw [mI_n, mErr_nL]; omega) (by rw [wL_wErr]; omega)
  have hmr := h_markIntS 3 rs 1 (by omega) (by rw [mI_n]; omega)
  have hhr := h_heldIntS rs 1 (by omega) (by rw [mI_n]; omega)
  simp only [mI_n] at hmw hme hmr hhr
  simp only [mErr_nL, Int.natCast_mul, Int.cast_ofNat_Int] at hme
  first | refine callG_F htw (by simp) ?_ | refine gcal_F htw (by simp) ?_ | refine callRG_F htw rfl rfl (by simp) (by simp) ?_ | refine ⟨_, by simp, htw, ?_⟩
  try simp
  first | refine callG_F hte (by simp) ?_ | refine gcal_F hte (by simp) ?_ | refine callRG_F hte rfl rfl (by simp) (by simp) ?_ | refine ⟨_, by simp, hte, ?_⟩
  try simp
  first | refine callG_F hs (by simp) ?_ | refine gcal_F hs (by simp) ?_ | refine callRG_F hs rfl rfl (by simp) (by simp) ?_ | refine ⟨_, by simp, hs, ?_⟩
  try simp
  first | refine callG_F htw (by simp) ?_ | refine gcal_F htw (by simp) ?_ | refine callRG_F htw rfl rfl (by simp) (by simp) ?_ | refine ⟨_, by simp, htw, ?_⟩
  try simp
  first | refine callG_F hte (by simp) ?_ | refine gcal_F hte (by simp) ?_ | refine callRG_F hte rfl rfl (by simp) (by simp) ?_ | refine ⟨_, by simp, hte, ?_⟩
  try simp
  first | refine callG_F hi (by simp) ?_ | refine gcal_F hi (by simp) ?_ | refine callRG_F hi rfl rfl (by simp) (by simp) ?_ | refine ⟨_, by simp, hi, ?_⟩
  try simp
  first | refine callG_F her (by simp) ?_ | refine gcal_F her (by simp) ?_ | refine callRG_F her rfl rfl (by simp) (by simp) ?_ | refine ⟨_, by simp, her, ?_⟩
  try simp
  first | refine callG_F htw (by simp) ?_ | refine gcal_F htw (by simp) ?_ | refine callRG_F htw rfl rfl (by simp) (by simp) ?_ | refine ⟨_, by simp, htw, ?_⟩
  try simp
  first | refine callG_F hew (by simp) ?_ | refine gcal_F hew (by simp) ?_ | refine callRG_F hew rfl rfl (by simp) (by simp) ?_ | refine ⟨_, by simp, hew, ?_⟩
  try simp
  first | refine callG_F hte (by simp) ?_ | refine gcal_F hte (by simp) ?_ | refine callRG_F hte rfl rfl (by simp) (by simp) ?_ | refine ⟨_, by simp, hte, ?_⟩
  try simp
  first | refine callG_F hee (by simp) ?_ | refine gcal_F hee (by simp) ?_ | refine callRG_F hee rfl rfl (by simp) (by simp) ?_ | refine ⟨_, by simp, hee, ?_⟩
  try simp
  first | refine callG_F hmw (by simp) ?_ | refine gcal_F hmw (by simp) ?_ | refine callRG_F hmw rfl rfl (by simp) (by simp) ?_ | refine ⟨_, by simp, hmw, ?_⟩
  try simp
  have n2 : ¬ (1 + (ws.length : Int) + 3 * es.length < 0) := by omega
  have n3 : ¬ (1 + (rs.length : Int) < 0) := by omega
  first | refine callG_F hme (by simp) ?_ | refine gcal_F hme (by simp) ?_ | refine callRG_F hme rfl rfl (by simp) (by simp) ?_ | refine ⟨_, by simp, hme, ?_⟩
  try simp [n2, n3]
  first | refine callG_F her (by simp) ?_ | refine gcal_F her (by simp) ?_ | refine callRG_F her rfl rfl (by simp) (by simp) ?_ | refine ⟨_, by simp, her, ?_⟩
  try simp [n2, n3]
  first | refine callG_F hmr (by simp) ?_ | refine gcal_F hmr (by simp) ?_ | refine callRG_F hmr rfl rfl (by simp) (by simp) ?_ | refine ⟨_, by simp, hmr, ?_⟩
  try simp [n2, n3]
  first | refine callG_F hhr (by simp) ?_ | refine gcal_F hhr (by simp) ?_ | refine callRG_F hhr rfl rfl (by simp) (by simp) ?_ | refine ⟨_, by simp, hhr, ?_⟩
  try simp [n2, n3]
  first | refine callG_F htw (by simp) ?_ | refine gcal_F htw (by simp) ?_ | refine callRG_F htw rfl rfl (by simp) (by simp) ?_ | refine ⟨_, by simp, htw, ?_⟩
  try simp [n2, n3]
  first | refine callG_F hte (by simp) ?_ | refine gcal_F hte (by simp) ?_ | refine callRG_F hte rfl rfl (by simp) (by simp) ?_ | refine ⟨_, by simp, hte, ?_⟩
  try simp [n2, n3]
  first | refine callG_F hi (by simp) ?_ | refine gcal_F hi (by simp) ?_ | refine callRG_F hi rfl rfl (by simp) (by simp) ?_ | refine ⟨_, by simp, hi, ?_⟩
  try simp [n2, n3]
  first | refine callG_F her (by simp) ?_ | refine gcal_F her (by simp) ?_ | refine callRG_F her rfl rfl (by simp) (by simp) ?_ | refine ⟨_, by simp, her, ?_⟩
  try simp [n2, n3]
  first | refine callG_F hhr (by simp) ?_ | refine gcal_F hhr (by simp) ?_ | refine callRG_F hhr rfl rfl (by simp) (by simp) ?_ | refine ⟨_, by simp, hhr, ?_⟩
  try simp [n2, n3]
end Go.Am
-- Err_sh
namespace Go.Am
open Go.Proofs
set_option maxHeartbeats 4000000
def shErr : List Sh := [.i, .i, .i]
theorem of_Err (x : List C) (h : inShs shErr x) : ∃ a : TErr, x = sErr a ∧ lErr a := by
  simp only [shErr, inShs] at h
  obtain ⟨c0, r0, rfl, h0, c1, r1, rfl, h1, c2, r2, rfl, h2, rfl⟩ := h
  simp only [inSh] at h0
  obtain ⟨n0, rfl⟩ := h0
  simp only [inSh] at h1
  obtain ⟨n1, rfl⟩ := h1
  simp only [inSh] at h2
  obtain ⟨n2, rfl⟩ := h2
  refine ⟨⟨n0, n1, n2⟩, rfl, ?_⟩
  simp only [lErr]
end Go.Am
-- B_FnExactRepaired
namespace Go.Am
open Go.Proofs
set_option maxHeartbeats 4000000
open Go.ChangeShapes Go.WideShapes Go.ChangeAt Go.RowKit Go.Proofs.Ythkjmplgdceajaa
theorem own_FnExactRepaired : ownKnob Try.prog.godebug = none := by kernel_rfl
theorem laidOut_FnExactRepaired : laidOutB Try.prog = true := by kernel_rfl
set_option maxRecDepth 100000 in
theorem lifted_FnExactRepaired (os : Os) (started : os.Started) (H : Type) (enc : TypeId × Value → H) :
    ReturnsInHanded {} Try.checked os 4 .any (Rows.fnExactRepairedSpec.pre6 enc Try.prog Try.f4 Rows.fnExactRepairedRow.domain false) (Rows.fnExactRepairedSpec.post enc Try.prog Try.f4 false true false false) := by
  refine returnsInHanded_of_change (C := Try.checked) own_FnExactRepaired started (by kernel_rfl) Try.func4
    (ChangeSpec.witness6 (enc := enc) (C := Try.checked) false ⟨#[], #[.slice none 0 0, .slice none 0 0], []⟩ 8 (by kernel_rfl) (by kernel_rfl) (by kernel_rfl) (by kernel_rfl)) ?_
  intro W base args ds gs before hval0 hW hcnd _
  have hval : ∀ (j : Nat) t v, Try.f4.params[j]? = some t → args[j]? = some v → Value.okWide Try.prog W .any base t v := hval0
  have hW' := hW
  obtain ⟨p, q, hA0, hV, rfl, hfz, hnd⟩ := hW
  have hA : DataW.TrodAll enc Try.prog W 0 (fun _ => true) true Try.f4.params.toList args.toList ds p := hA0
  rw [Try.params4] at hA hval
  obtain ⟨v0, v1, d0, d1, p0, p1, rfl, rfl, rfl, h0, h1⟩ := trodAll_two hA
  obtain ⟨rfl, rfl⟩ := trodVars_none hV
  have hV0 : ∀ (W' : World) (sp : Nat → Bool), DataW.TrodVars enc Try.checked.prog W' sp Rows.fnExactRepairedSpec.vars ([] : List (DataW H)) [] := fun _ _ => by first | rfl | trivial | exact ⟨rfl, rfl⟩ | exact ⟨_, rfl, rfl⟩
  have hk0 := h0
  have hs0 : shT Try.prog 12 24 = some [.l 1 [.i]] := by kernel_rfl
  obtain ⟨c0, hc0, hr0⟩ := arg_sl (lc := fun _ => none) Try.underlying24 hs0 (hval 0 24 v0 rfl rfl) h0
  obtain ⟨x0, rfl, hl0⟩ := of_sl of_int c0 hc0
  have hk1 := h1
  have hs1 : shT Try.prog 12 25 = some [.l 3 shErr] := by kernel_rfl
  obtain ⟨c1, hc1, hr1⟩ := arg_sl (lc := fun _ => none) Try.underlying25 hs1 (hval 1 25 v1 rfl rfl) h1
  obtain ⟨x1, rfl, hl1⟩ := of_sl of_Err c1 hc1
  clear hA0 hval0
  simp only [List.append_nil] at hW'
  refine (below_of (h_law_Repaired x0 hl0 x1 hl1) (fun _ _ _ _ h => h.1) W [v0, v1] (by simp [aI, A.ref, C.ref, refCs]) ⟨_, _, fz, fz, rfl, (add_fz _).symm, hr0, ⟨_, _, fz, fz, rfl, (add_fz _).symm, hr1, ⟨rfl, rfl⟩⟩⟩ rfl).mono fun e W' ⟨he, hw⟩ => ?_
  subst he
  exact ⟨_, rfl, [d0, d1], [], _, [], _, [], by simpa using hW', trodAll_mk1 (shut_bool Try.underlying4 true), trodAll_mk2 (Below.trod laidOut_FnExactRepaired (by kernel_rfl) (of_decide_eq_true (by kernel_rfl)) hk0 hw (fun x hx => by have := hW'.lt x (by simp [hx]); simpa using this)) (Below.trod laidOut_FnExactRepaired (by kernel_rfl) (of_decide_eq_true (by kernel_rfl)) hk1 hw (fun x hx => by have := hW'.lt x (by simp [hx]); simpa using this)), hV0 _ _, hw.frame _, fun h => by cases h⟩
theorem holds_FnExactRepaired : Rows.FnExactRepairedSaid :=
  OpenClaim.holds_of_wide 4 Try.f4 rfl rfl rfl rfl rfl rfl rfl ⟨rfl, rfl, rfl, rfl, rfl⟩ rfl rfl rfl rfl rfl (by kernel_rfl) Try.func4 (by kernel_rfl)
    (of_decide_eq_true (by kernel_rfl)) (by unfold Func.isWrapper; first | (rw [if_pos (by decide +kernel)]; kernel_rfl) | (rw [if_neg (by decide +kernel)]; exact ⟨rfl, rfl⟩))
    (fun os started H enc _ => lifted_FnExactRepaired os started H enc)
#print axioms holds_FnExactRepaired
end Go.Am
namespace Go.Proofs.Ythkjmplgdceajaa
theorem fnExactRepaired_holds : Rows.FnExactRepairedSaid := Go.Am.holds_FnExactRepaired
end Go.Proofs.Ythkjmplgdceajaa
