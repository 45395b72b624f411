/- PROVED: for all pairs of stores, StoreSame of the program returns what the reference's StoreSame returns; the arguments read as they did. No condition. -/
import Derived.Test.YthkjmplgdceajaaAm5
import Derived.Test.YthkjmplgdceajaaProg
import Derived.Test.YthkjmplgdceajaaRows
import Derived.ProofKit
set_option linter.unusedVariables false
set_option linter.unusedSimpArgs false
namespace Go.Am
open Go.Proofs
noncomputable def PT : List (Nat × TI) := mkT Try.prog (List.range 182)
noncomputable def PF : List Nat := mkF Try.prog (List.range 133)
def PA : An := ⟨[], false, true, [(19, 0), (20, 0), (25, 0), (32, 0), (49, 0)], false, [(54, 1), (77, 1)]⟩
def PB : An := ⟨[], false, true, [(19, 0), (20, 0), (25, 0), (32, 0), (49, 0)], true, [(54, 1), (77, 1)]⟩
theorem Pmo : PA.mo = true → Try.prog.follows .mixedOrders = true := fun _ => by kernel_rfl
theorem PmoB : PB.mo = true → Try.prog.follows .mixedOrders = true := fun _ => by kernel_rfl
theorem Prun {f : FuncId} {k : K} {r : Nat × List RV} {args : List A} {v : A} (hc : cmpS PT PF PA (Try.prog.funcs[f]?) = some (r.1, r.2, stripK k)) (hn : args.length ≤ r.1) (hn2 : args.length ≤ 1000)
    (h : awp Try.prog k (FPost' r.2 fun a H => H = [] ∧ a = v) (entry args [])) : CallsF Try.prog f args v := callF_run (mkT_ok _ _) (mkF_ok _ _) PA Pmo hc hn hn2 h
theorem PrunA {f : FuncId} {k : K} {r : Nat × List RV} {args : List A} {H : List (Nat × Obj)} {R : A → List (Nat × Obj) → Prop} (hc : cmpS PT PF PA (Try.prog.funcs[f]?) = some (r.1, r.2, stripK k)) (hn : args.length ≤ r.1) (hn2 : args.length ≤ 1000)
    (h : awp Try.prog k (FPost' r.2 R) (entry args H)) : CallsA Try.prog f args H R := calls_runS (mkT_ok _ _) (mkF_ok _ _) PA Pmo hc hn hn2 h
theorem PfnOk (f : Nat) (h : PF.contains f = true) : FnOk Try.prog f := fnOk_of (mkF_ok _ _) h
theorem PrunB {f : FuncId} {k : K} {r : Nat × List RV} {args : List A} {H : List (Nat × Obj)} {R : A → List (Nat × Obj) → Prop} (hc : cmpS PT PF PB (Try.prog.funcs[f]?) = some (r.1, r.2, stripK k)) (hn : args.length ≤ r.1) (hn2 : args.length ≤ 1000)
    (h : awp Try.prog k (FPost' r.2 R) (entry args H)) : CallsA Try.prog f args H R := calls_runS (mkT_ok _ _) (mkF_ok _ _) PB PmoB hc hn hn2 h
end Go.Am
-- cmpi
namespace Go.Am
open Go.Proofs
set_option maxHeartbeats 4000000
def ordI (a b : Int) : Int := if a < b then -1 else if b < a then 1 else 0
def ordL : List Int → List Int → Int
  | [], [] => 0
  | [], _ :: _ => -1
  | _ :: _, [] => 1
  | a :: u, b :: v => if ordI a b = 0 then ordL u v else ordI a b
def orI : List Int → Int
  | [] => 0
  | a :: u => if a = 0 then orI u else a
theorem ordI_eq {a b : Int} : ordI a b = 0 ↔ a = b := by unfold ordI; split <;> (try split) <;> omega
theorem ordL_eq : ∀ {a b : List Int}, ordL a b = 0 ↔ a = b
  | [], [] => by simp [ordL]
  | [], _ :: _ => by simp [ordL]
  | _ :: _, [] => by simp [ordL]
  | a :: u, b :: v => by
    simp only [ordL]
    by_cases h : ordI a b = 0
    · rw [if_pos h, ordL_eq]
      have := ordI_eq.1 h
      subst this
      simp
    · rw [if_neg h]
      constructor
      · intro h2; exact absurd h2 h
      · intro h2
        injection h2 with h3 h4
        exact absurd (ordI_eq.2 h3) h
theorem ordL_step {a b : List Int} {i : Nat} (ha : i < a.length) (hb : i < b.length) : ordL (a.drop i) (b.drop i) = if ordI a[i] b[i] = 0 then ordL (a.drop (i + 1)) (b.drop (i + 1)) else ordI a[i] b[i] := by
  rw [List.drop_eq_getElem_cons ha, List.drop_eq_getElem_cons hb, ordL]
theorem ordL_end {a b : List Int} {i : Nat} (h : a.length ≤ i ∨ b.length ≤ i) (ha : i ≤ a.length) (hb : i ≤ b.length) : ordL (a.drop i) (b.drop i) = if a.length < b.length then -1 else if b.length < a.length then 1 else 0 := by
  rcases Nat.lt_trichotomy a.length b.length with hl | hl | hl
  · have : i = a.length := by omega
    rw [if_pos hl, List.drop_eq_nil_of_le (by omega : a.length ≤ i), List.drop_eq_getElem_cons (by omega : i < b.length)]
    rfl
  · rw [if_neg (by omega), if_neg (by omega), List.drop_eq_nil_of_le (by omega : a.length ≤ i), List.drop_eq_nil_of_le (by omega : b.length ≤ i)]
    rfl
  · rw [if_neg (by omega), if_pos hl, List.drop_eq_nil_of_le (by omega : b.length ≤ i), List.drop_eq_getElem_cons (by omega : i < a.length)]
    rfl
end Go.Am
-- ListCmp
namespace Go.Am
open Go.Proofs
set_option maxHeartbeats 4000000
def bitI (b : Bool) : Int := if b then 1 else 0
-- 84 loop.example/g00485/spec.l1Bit
def k_spec_l1Bit : K :=
 .seq (
  .reg none [⟨(some 2), none, .asn (.c (.int .i64 (0)))⟩]) (
 .seq (
  .seq (
   .reg none [⟨(some 3), none, .mv (.t 0)⟩]) (
  .cond (.t 3) (
   .seq (
    .reg none [⟨(some 2), none, .asn (.c (.int .i64 (1)))⟩]) (
   .ret)) (
   .skip))) (
 .seq (
  .reg none [⟨(some 2), none, .asn (.c (.int .i64 (0)))⟩]) (
 .ret)))
def r_spec_l1Bit : Nat × List RV := (4, [.t 2])

theorem c_spec_l1Bit : cmpS PT PF PA (Try.prog.funcs[84]?) = some (r_spec_l1Bit.1, r_spec_l1Bit.2, stripK k_spec_l1Bit) := by kernel_rfl

theorem h_spec_l1Bit (b : Bool) : CallsF Try.prog 84 [aB b] (aI (bitI b)) := by
  refine Prun c_spec_l1Bit (by simp [r_spec_l1Bit]) (by simp) ?_
  unfold k_spec_l1Bit r_spec_l1Bit
  cases b <;> simp [bitI]
-- 93 loop.example/g00485/spec.ListCmp
def k_spec_ListCmp : K :=
 .seq (
  .reg none [⟨(some 4), none, .asn (.c (.int .i64 (0)))⟩]) (
 .seq (
  .seq (
   .reg none [⟨(some 5), none, .asn (.c (.int .i64 (0)))⟩]) (
  .block 0 (
   .loop (some ([0, 1, 5], [0, 1, 5, 1000])) (
    .seq (
     .seq (
      .reg none [⟨(some 6), none, .mv (.t 5)⟩,
        ⟨(some 7), none, .mv (.t 0)⟩,
        ⟨(some 8), none, .len (.t 7)⟩,
        ⟨(some 9), none, .bin .lss (.t 6) (.t 8)⟩,
        ⟨(some 10), none, .mv (.t 9)⟩,
        ⟨(some 11), (some (10, true)), .mv (.t 5)⟩,
        ⟨(some 12), (some (10, true)), .mv (.t 1)⟩,
        ⟨(some 13), (some (10, true)), .len (.t 12)⟩,
        ⟨(some 14), (some (10, true)), .bin .lss (.t 11) (.t 13)⟩,
        ⟨(some 15), none, .pick (.t 10) (.t 14) (.c (.bool false))⟩]) (
     .cond (.t 15) (
      .skip) (
      .exit 0))) (
    .seq (
     .block 1 (
      .seq (
       .seq (
        .drw none 9 [⟨(some 18), none, .mv (.t 0)⟩,
          ⟨(some 19), none, .mv (.t 5)⟩,
          ⟨(some 20), none, .iad 1 (.t 18) (.t 19)⟩,
          ⟨(some 21), none, .ld 1 false (.t 20)⟩,
          ⟨(some 22), none, .mv (.t 1)⟩,
          ⟨(some 23), none, .mv (.t 5)⟩,
          ⟨(some 24), none, .iad 1 (.t 22) (.t 23)⟩,
          ⟨(some 25), none, .ld 1 false (.t 24)⟩,
          ⟨(some 26), none, .bin .lss (.t 21) (.t 25)⟩]) (
       .cond (.t 26) (
        .seq (
         .reg none [⟨(some 4), none, .asn (.c (.int .i64 (-1)))⟩]) (
        .ret)) (
        .skip))) (
      .seq (
       .drw none 9 [⟨(some 27), none, .mv (.t 0)⟩,
         ⟨(some 28), none, .mv (.t 5)⟩,
         ⟨(some 29), none, .iad 1 (.t 27) (.t 28)⟩,
         ⟨(some 30), none, .ld 1 false (.t 29)⟩,
         ⟨(some 31), none, .mv (.t 1)⟩,
         ⟨(some 32), none, .mv (.t 5)⟩,
         ⟨(some 33), none, .iad 1 (.t 31) (.t 32)⟩,
         ⟨(some 34), none, .ld 1 false (.t 33)⟩,
         ⟨(some 35), none, .bin .gtr (.t 30) (.t 34)⟩]) (
      .cond (.t 35) (
       .seq (
        .reg none [⟨(some 4), none, .asn (.c (.int .i64 (1)))⟩]) (
       .ret)) (
       .skip))))) (
    .reg none [⟨(some 16), none, .mv (.t 5)⟩,
      ⟨(some 17), none, .bin .add (.t 16) (.c (.int .i64 (1)))⟩,
      ⟨(some 5), none, .asn (.t 17)⟩])))))) (
 .seq (
  .seq (
   .reg none [⟨(some 36), none, .mv (.t 0)⟩,
     ⟨(some 37), none, .len (.t 36)⟩,
     ⟨(some 38), none, .mv (.t 1)⟩,
     ⟨(some 39), none, .len (.t 38)⟩,
     ⟨(some 40), none, .bin .lss (.t 37) (.t 39)⟩]) (
  .cond (.t 40) (
   .seq (
    .reg none [⟨(some 4), none, .asn (.c (.int .i64 (-1)))⟩]) (
   .ret)) (
   .skip))) (
 .seq (
  .reg none [⟨(some 41), none, .mv (.t 0)⟩,
    ⟨(some 42), none, .len (.t 41)⟩,
    ⟨(some 43), none, .mv (.t 1)⟩,
    ⟨(some 44), none, .len (.t 43)⟩,
    ⟨(some 45), none, .bin .gtr (.t 42) (.t 44)⟩,
    ⟨(some 46), none, .call 84 [(.t 45)]⟩,
    ⟨(some 4), none, .asn (.t 46)⟩]) (
 .ret))))
def r_spec_ListCmp : Nat × List RV := (47, [.t 4])

theorem c_spec_ListCmp : cmpS PT PF PA (Try.prog.funcs[93]?) = some (r_spec_ListCmp.1, r_spec_ListCmp.2, stripK k_spec_ListCmp) := by kernel_rfl

theorem h_spec_ListCmp (xs ys : List Int) (hx : xs.length < 2 ^ 40) : CallsF Try.prog 93 [.one (.ar false 0 1 (xs.map rI)), .one (.ar false 0 1 (ys.map rI))] (aI (ordL xs ys)) := by
  refine Prun c_spec_ListCmp (by simp [r_spec_ListCmp]) (by simp) ?_
  unfold k_spec_ListCmp r_spec_ListCmp
  simp
  refine awp_loop (fun n σ => ∃ i : Nat, i ≤ xs.length ∧ i ≤ ys.length ∧ n = xs.length - i ∧ ordL xs ys = ordL (xs.drop i) (ys.drop i) ∧ σ = ⟨[(0, .one (.ar false 0 1 (xs.map rI))), (1, .one (.ar false 0 1 (ys.map rI))), (5, aI i)], []⟩) (xs.length) ⟨0, by simp⟩ ?_
  rintro n σ ⟨i, hi, hi2, rfl, ht, rfl⟩
  have hend : ∀ h : xs.length ≤ i ∨ ys.length ≤ i, ordL xs ys = if xs.length < ys.length then -1 else bitI (decide (ys.length < xs.length)) := fun h => by
    rw [ht, ordL_end h hi hi2]; simp [bitI]
  by_cases h : i < xs.length
  · by_cases h2 : i < ys.length
    · rw [ordL_step h h2] at ht
      by_cases c1 : xs[i] < ys[i]
      · have : ordI xs[i] ys[i] = -1 := by unfold ordI; rw [if_pos c1]
        rw [this, if_neg (by omega)] at ht
        simp [h, h2, c1, ht]
      · by_cases c2 : ys[i] < xs[i]
        · have : ordI xs[i] ys[i] = 1 := by unfold ordI; rw [if_neg c1, if_pos c2]
          rw [this, if_neg (by omega)] at ht
          simp [h, h2, c1, c2, ht]
        · have : ordI xs[i] ys[i] = 0 := by unfold ordI; rw [if_neg c1, if_neg c2]
          rw [this, if_pos rfl] at ht
          simp [h, h2, c1, c2]
          refine ⟨xs.length - (i + 1), by omega, i + 1, by omega, by omega, rfl, ht, ?_⟩
          rw [wrapI (by omega) (by omega)]
          simp
    · have he := hend (.inr (by omega))
      by_cases c1 : xs.length < ys.length
      · omega
      · have c3 : ¬ (xs.length : Int) < ys.length := by omega
        rw [if_neg c1] at he
        simp [h, h2, c1]
        refine callG_F (h_spec_l1Bit _) (by simp) ?_
        simp [he]
  · have he := hend (.inl (by omega))
    by_cases c1 : xs.length < ys.length
    · rw [if_pos c1] at he
      simp [h, c1, he]
    · rw [if_neg c1] at he
      simp [h, c1]
      refine callG_F (h_spec_l1Bit _) (by simp) ?_
      simp [he]
end Go.Am
-- Compare
namespace Go.Am
open Go.Proofs
set_option maxHeartbeats 4000000
-- 116 cmp.isNaN[int]
def k_cmp_isNaN_int : K :=
 .seq (
  .reg none [⟨(some 2), none, .asn (.c (.bool false))⟩]) (
 .seq (
  .reg none [⟨(some 3), none, .mv (.t 0)⟩,
    ⟨(some 4), none, .mv (.t 0)⟩,
    ⟨(some 5), none, .bin .neq (.t 3) (.t 4)⟩,
    ⟨(some 2), none, .asn (.t 5)⟩]) (
 .ret))
def r_cmp_isNaN_int : Nat × List RV := (6, [.t 2])

theorem c_cmp_isNaN_int : cmpS PT PF PA (Try.prog.funcs[116]?) = some (r_cmp_isNaN_int.1, r_cmp_isNaN_int.2, stripK k_cmp_isNaN_int) := by kernel_rfl

theorem h_isNaN (a : Int) : CallsF Try.prog 116 [aI a] (aB false) := by
  refine Prun c_cmp_isNaN_int (by simp [r_cmp_isNaN_int]) (by simp) ?_
  unfold k_cmp_isNaN_int r_cmp_isNaN_int
  simp
-- 109 cmp.Compare[int]
def k_cmp_Compare_int : K :=
 .seq (
  .reg none [⟨(some 4), none, .asn (.c (.int .i64 (0)))⟩]) (
 .seq (
  .reg none [⟨(some 7), none, .mv (.t 0)⟩,
    ⟨(some 8), none, .call 116 [(.t 7)]⟩,
    ⟨(some 5), none, .asn (.t 8)⟩]) (
 .seq (
  .reg none [⟨(some 9), none, .mv (.t 1)⟩,
    ⟨(some 10), none, .call 116 [(.t 9)]⟩,
    ⟨(some 6), none, .asn (.t 10)⟩]) (
 .seq (
  .seq (
   .reg none [⟨(some 11), none, .mv (.t 5)⟩]) (
  .cond (.t 11) (
   .seq (
    .seq (
     .reg none [⟨(some 12), none, .mv (.t 6)⟩]) (
    .cond (.t 12) (
     .seq (
      .reg none [⟨(some 4), none, .asn (.c (.int .i64 (0)))⟩]) (
     .ret)) (
     .skip))) (
   .seq (
    .reg none [⟨(some 4), none, .asn (.c (.int .i64 (-1)))⟩]) (
   .ret))) (
   .skip))) (
 .seq (
  .seq (
   .reg none [⟨(some 13), none, .mv (.t 6)⟩]) (
  .cond (.t 13) (
   .seq (
    .reg none [⟨(some 4), none, .asn (.c (.int .i64 (1)))⟩]) (
   .ret)) (
   .skip))) (
 .seq (
  .seq (
   .reg none [⟨(some 14), none, .mv (.t 0)⟩,
     ⟨(some 15), none, .mv (.t 1)⟩,
     ⟨(some 16), none, .bin .lss (.t 14) (.t 15)⟩]) (
  .cond (.t 16) (
   .seq (
    .reg none [⟨(some 4), none, .asn (.c (.int .i64 (-1)))⟩]) (
   .ret)) (
   .skip))) (
 .seq (
  .seq (
   .reg none [⟨(some 17), none, .mv (.t 0)⟩,
     ⟨(some 18), none, .mv (.t 1)⟩,
     ⟨(some 19), none, .bin .gtr (.t 17) (.t 18)⟩]) (
  .cond (.t 19) (
   .seq (
    .reg none [⟨(some 4), none, .asn (.c (.int .i64 (1)))⟩]) (
   .ret)) (
   .skip))) (
 .seq (
  .reg none [⟨(some 4), none, .asn (.c (.int .i64 (0)))⟩]) (
 .ret))))))))
def r_cmp_Compare_int : Nat × List RV := (20, [.t 4])

theorem c_cmp_Compare_int : cmpS PT PF PA (Try.prog.funcs[109]?) = some (r_cmp_Compare_int.1, r_cmp_Compare_int.2, stripK k_cmp_Compare_int) := by kernel_rfl

theorem h_cmpCompare (a b : Int) : CallsF Try.prog 109 [aI a, aI b] (aI (ordI a b)) := by
  refine Prun c_cmp_Compare_int (by simp [r_cmp_Compare_int]) (by simp) ?_
  unfold k_cmp_Compare_int r_cmp_Compare_int
  simp
  refine callG_F (h_isNaN a) (by simp) ?_
  simp
  refine callG_F (h_isNaN b) (by simp) ?_
  by_cases c1 : a < b
  · simp [c1, ordI]
  · by_cases c2 : b < a
    · simp [c1, c2, ordI]
    · simp [c1, c2, ordI]
-- 108 cmp.Or[int]
def k_cmp_Or_int : K :=
 .seq (
  .reg none [⟨(some 2), none, .asn (.c (.int .i64 (0)))⟩]) (
 .seq (
  .reg none [⟨(some 3), none, .asn (.c (.int .i64 (0)))⟩]) (
 .seq (
  .seq (
   .reg none [⟨(some 6), none, .mv (.t 0)⟩,
     ⟨(some 7), none, .len (.t 6)⟩,
     ⟨(some 8), none, .mv (.c (.int .i64 (0)))⟩]) (
  .block 0 (
   .loop (some ([3, 6, 7, 8], [0, 3, 1000])) (
    .seq (
     .reg none [⟨(some 9), none, .bin .lss (.t 8) (.t 7)⟩]) (
    .seq (
     .cond (.t 9) (
      .skip) (
      .exit 0)) (
    .seq (
     .block 1 (
      .seq (
       .reg none [⟨(some 10), none, .iad 1 (.t 6) (.t 8)⟩,
         ⟨(some 11), none, .ld 1 false (.t 10)⟩,
         ⟨(some 5), none, .asn (.t 11)⟩]) (
      .seq (
       .reg none [⟨(some 12), none, .mv (.t 5)⟩,
         ⟨(some 13), none, .mv (.t 3)⟩,
         ⟨(some 14), none, .bin .neq (.t 12) (.t 13)⟩]) (
      .cond (.t 14) (
       .seq (
        .reg none [⟨(some 15), none, .mv (.t 5)⟩,
          ⟨(some 2), none, .asn (.t 15)⟩]) (
       .ret)) (
       .skip))))) (
    .reg none [⟨(some 16), none, .bin .add (.t 8) (.c (.int .i64 (1)))⟩,
      ⟨(some 8), none, .mv (.t 16)⟩]))))))) (
 .seq (
  .reg none [⟨(some 17), none, .mv (.t 3)⟩,
    ⟨(some 2), none, .asn (.t 17)⟩]) (
 .ret))))
def r_cmp_Or_int : Nat × List RV := (18, [.t 2])

theorem c_cmp_Or_int : cmpS PT PF PA (Try.prog.funcs[108]?) = some (r_cmp_Or_int.1, r_cmp_Or_int.2, stripK k_cmp_Or_int) := by kernel_rfl

theorem h_cmpOr (xs : List Int) (hx : xs.length < 2 ^ 40) : CallsF Try.prog 108 [.one (.ar false 0 1 (xs.map rI))] (aI (orI xs)) := by
  refine Prun c_cmp_Or_int (by simp [r_cmp_Or_int]) (by simp) ?_
  unfold k_cmp_Or_int r_cmp_Or_int
  simp
  refine awp_loop (fun n σ => ∃ i : Nat, i ≤ xs.length ∧ n = xs.length - i ∧ orI xs = orI (xs.drop i) ∧ σ = ⟨[(3, aI 0), (6, .one (.ar false 0 1 (xs.map rI))), (7, aI xs.length), (8, aI i)], []⟩) (xs.length) ⟨0, by simp⟩ ?_
  rintro n σ ⟨i, hi, rfl, ht, rfl⟩
  by_cases h : i < xs.length
  · rw [List.drop_eq_getElem_cons h, orI] at ht
    by_cases c1 : xs[i] = 0
    · rw [if_pos c1] at ht
      simp [h, c1]
      refine ⟨xs.length - (i + 1), by omega, i + 1, by omega, rfl, ht, ?_⟩
      rw [wrapI (by omega) (by omega)]
      simp
    · rw [if_neg c1] at ht
      simp [h, c1, ht]
  · have : i = xs.length := by omega
    subst this
    rw [List.drop_length, orI] at ht
    simp [ht]
-- 110 slices.Compare[[]int,int]
def k_slices_Compare_int_int : K :=
 .seq (
  .reg none [⟨(some 4), none, .asn (.c (.int .i64 (0)))⟩]) (
 .seq (
  .seq (
   .reg none [⟨(some 9), none, .mv (.t 0)⟩,
     ⟨(some 10), none, .len (.t 9)⟩,
     ⟨(some 11), none, .mv (.c (.int .i64 (0)))⟩]) (
  .block 0 (
   .loop (some ([0, 1, 9, 10, 11], [0, 1, 1000])) (
    .seq (
     .reg none [⟨(some 12), none, .bin .lss (.t 11) (.t 10)⟩]) (
    .seq (
     .cond (.t 12) (
      .skip) (
      .exit 0)) (
    .seq (
     .block 1 (
      .seq (
       .reg none [⟨(some 13), none, .mv (.t 11)⟩,
         ⟨(some 14), none, .iad 1 (.t 9) (.t 11)⟩,
         ⟨(some 15), none, .ld 1 false (.t 14)⟩,
         ⟨(some 5), none, .asn (.t 13)⟩,
         ⟨(some 6), none, .asn (.t 15)⟩]) (
      .seq (
       .seq (
        .reg none [⟨(some 16), none, .mv (.t 5)⟩,
          ⟨(some 17), none, .mv (.t 1)⟩,
          ⟨(some 18), none, .len (.t 17)⟩,
          ⟨(some 19), none, .bin .geq (.t 16) (.t 18)⟩]) (
       .cond (.t 19) (
        .seq (
         .reg none [⟨(some 4), none, .asn (.c (.int .i64 (1)))⟩]) (
        .ret)) (
        .skip))) (
      .seq (
       .reg none [⟨(some 20), none, .mv (.t 1)⟩,
         ⟨(some 21), none, .mv (.t 5)⟩,
         ⟨(some 22), none, .iad 1 (.t 20) (.t 21)⟩,
         ⟨(some 23), none, .ld 1 false (.t 22)⟩,
         ⟨(some 7), none, .asn (.t 23)⟩]) (
      .seq (
       .reg none [⟨(some 24), none, .mv (.t 6)⟩,
         ⟨(some 25), none, .mv (.t 7)⟩,
         ⟨(some 26), none, .call 109 [(.t 24), (.t 25)]⟩,
         ⟨(some 8), none, .asn (.t 26)⟩]) (
      .seq (
       .reg none [⟨(some 27), none, .mv (.t 8)⟩,
         ⟨(some 28), none, .bin .neq (.t 27) (.c (.int .i64 (0)))⟩]) (
      .cond (.t 28) (
       .seq (
        .reg none [⟨(some 29), none, .mv (.t 8)⟩,
          ⟨(some 4), none, .asn (.t 29)⟩]) (
       .ret)) (
       .skip)))))))) (
    .reg none [⟨(some 30), none, .bin .add (.t 11) (.c (.int .i64 (1)))⟩,
      ⟨(some 11), none, .mv (.t 30)⟩]))))))) (
 .seq (
  .seq (
   .reg none [⟨(some 31), none, .mv (.t 0)⟩,
     ⟨(some 32), none, .len (.t 31)⟩,
     ⟨(some 33), none, .mv (.t 1)⟩,
     ⟨(some 34), none, .len (.t 33)⟩,
     ⟨(some 35), none, .bin .lss (.t 32) (.t 34)⟩]) (
  .cond (.t 35) (
   .seq (
    .reg none [⟨(some 4), none, .asn (.c (.int .i64 (-1)))⟩]) (
   .ret)) (
   .skip))) (
 .seq (
  .reg none [⟨(some 4), none, .asn (.c (.int .i64 (0)))⟩]) (
 .ret))))
def r_slices_Compare_int_int : Nat × List RV := (36, [.t 4])

theorem c_slices_Compare_int_int : cmpS PT PF PA (Try.prog.funcs[110]?) = some (r_slices_Compare_int_int.1, r_slices_Compare_int_int.2, stripK k_slices_Compare_int_int) := by kernel_rfl

theorem h_slicesCompare (xs ys : List Int) (hx : xs.length < 2 ^ 40) : CallsF Try.prog 110 [.one (.ar false 0 1 (xs.map rI)), .one (.ar false 0 1 (ys.map rI))] (aI (ordL xs ys)) := by
  refine Prun c_slices_Compare_int_int (by simp [r_slices_Compare_int_int]) (by simp) ?_
  unfold k_slices_Compare_int_int r_slices_Compare_int_int
  simp
  refine awp_loop (fun n σ => ∃ i : Nat, i ≤ xs.length ∧ i ≤ ys.length ∧ n = xs.length - i ∧ ordL xs ys = ordL (xs.drop i) (ys.drop i) ∧ σ = ⟨[(0, .one (.ar false 0 1 (xs.map rI))), (1, .one (.ar false 0 1 (ys.map rI))), (9, .one (.ar false 0 1 (xs.map rI))), (10, aI xs.length), (11, aI i)], []⟩) (xs.length) ⟨0, by simp⟩ ?_
  rintro n σ ⟨i, hi, hi2, rfl, ht, rfl⟩
  by_cases h : i < xs.length
  · by_cases h2 : i < ys.length
    · rw [ordL_step h h2] at ht
      have h3 : ¬ ys.length ≤ i := by omega
      simp [h, h2, h3]
      refine callG_F (h_cmpCompare _ _) (by simp) ?_
      by_cases c1 : ordI xs[i] ys[i] = 0
      · rw [if_pos c1] at ht
        simp [c1]
        refine ⟨xs.length - (i + 1), by omega, i + 1, by omega, by omega, rfl, ht, ?_⟩
        rw [wrapI (by omega) (by omega)]
        simp
      · rw [if_neg c1] at ht
        simp [c1, ht]
    · rw [ordL_end (.inr (by omega)) hi hi2, if_neg (by omega), if_pos (by omega)] at ht
      have h3 : ys.length ≤ i := by omega
      simp [h, h3, ht]
  · rw [ordL_end (.inl (by omega)) hi hi2] at ht
    by_cases c1 : xs.length < ys.length
    · rw [if_pos c1] at ht
      simp [h, c1, ht]
    · rw [if_neg c1, if_neg (by omega)] at ht
      simp [h, c1, ht]
end Go.Am
-- ints
namespace Go.Am
open Go.Proofs
set_option maxHeartbeats 4000000
-- 17 loop.example/g00485/laws.eqIntS
def k_laws_eqIntS : K :=
 .seq (
  .reg none [⟨(some 4), none, .asn (.c (.bool false))⟩]) (
 .seq (
  .seq (
   .reg none [⟨(some 6), none, .mv (.t 0)⟩,
     ⟨(some 7), none, .len (.t 6)⟩,
     ⟨(some 8), none, .mv (.t 1)⟩,
     ⟨(some 9), none, .len (.t 8)⟩,
     ⟨(some 10), none, .bin .neq (.t 7) (.t 9)⟩]) (
  .cond (.t 10) (
   .seq (
    .reg none [⟨(some 4), none, .asn (.c (.bool false))⟩]) (
   .ret)) (
   .skip))) (
 .seq (
  .seq (
   .reg none [⟨(some 5), none, .asn (.c (.int .i64 (0)))⟩]) (
  .block 0 (
   .loop (some ([0, 1, 5], [0, 1, 5, 1000])) (
    .seq (
     .seq (
      .reg none [⟨(some 11), none, .mv (.t 5)⟩,
        ⟨(some 12), none, .mv (.t 0)⟩,
        ⟨(some 13), none, .len (.t 12)⟩,
        ⟨(some 14), none, .bin .lss (.t 11) (.t 13)⟩]) (
     .cond (.t 14) (
      .skip) (
      .exit 0))) (
    .seq (
     .block 1 (
      .seq (
       .drw none 9 [⟨(some 17), none, .mv (.t 0)⟩,
         ⟨(some 18), none, .mv (.t 5)⟩,
         ⟨(some 19), none, .iad 1 (.t 17) (.t 18)⟩,
         ⟨(some 20), none, .ld 1 false (.t 19)⟩,
         ⟨(some 21), none, .mv (.t 1)⟩,
         ⟨(some 22), none, .mv (.t 5)⟩,
         ⟨(some 23), none, .iad 1 (.t 21) (.t 22)⟩,
         ⟨(some 24), none, .ld 1 false (.t 23)⟩,
         ⟨(some 25), none, .bin .neq (.t 20) (.t 24)⟩]) (
      .cond (.t 25) (
       .seq (
        .reg none [⟨(some 4), none, .asn (.c (.bool false))⟩]) (
       .ret)) (
       .skip)))) (
    .reg none [⟨(some 15), none, .mv (.t 5)⟩,
      ⟨(some 16), none, .bin .add (.t 15) (.c (.int .i64 (1)))⟩,
      ⟨(some 5), none, .asn (.t 16)⟩])))))) (
 .seq (
  .reg none [⟨(some 4), none, .asn (.c (.bool true))⟩]) (
 .ret))))
def r_laws_eqIntS : Nat × List RV := (26, [.t 4])

theorem c_laws_eqIntS : cmpS PT PF PA (Try.prog.funcs[17]?) = some (r_laws_eqIntS.1, r_laws_eqIntS.2, stripK k_laws_eqIntS) := by kernel_rfl

theorem h_eqIntS (xs : List Int) (hx : wL w0 xs < 2 ^ 40) : CallsF Try.prog 17 [.one (.ar false 0 1 (xs.map rI)), .one (.ar false 0 1 (xs.map rI))] (aB true) := by
  refine Prun c_laws_eqIntS (by simp [r_laws_eqIntS]) (by simp) ?_
  unfold k_laws_eqIntS r_laws_eqIntS
  rw [wL_w0] at hx
  simp
  refine awp_loop (fun n σ => ∃ i : Nat, i ≤ xs.length ∧ n = xs.length - i ∧ σ = ⟨[(0, .one (.ar false 0 1 (xs.map rI))), (1, .one (.ar false 0 1 (xs.map rI))), (5, aI i)], []⟩) (xs.length) ⟨0, by simp⟩ ?_
  rintro n σ ⟨i, hi, rfl, rfl⟩
  by_cases h : i < xs.length
  · simp [h]
    refine ⟨xs.length - (i + 1), by omega, i + 1, by omega, rfl, ?_⟩
    rw [wrapI (by omega) (by omega)]
    simp
  · simp [h]
-- 14 loop.example/g00485/laws.toIntS
def k_laws_toIntS : K :=
 .seq (
  .reg none [⟨(some 2), none, .asn (.c (.ar true 3 1 []))⟩]) (
 .seq (
  .reg none [⟨(some 5), none, .mv (.t 0)⟩,
    ⟨(some 6), none, .len (.t 5)⟩,
    ⟨(some 7), none, .mks 3 1 8 [(.int .i64 (0))] (.t 6) (.t 6)⟩,
    ⟨(some 3), none, .asn (.t 7)⟩]) (
 .seq (
  .seq (
   .reg none [⟨(some 4), none, .asn (.c (.int .i64 (0)))⟩]) (
  .block 0 (
   .loop (some ([0, 3, 4], [0, 3, 4, 1000])) (
    .seq (
     .seq (
      .reg none [⟨(some 8), none, .mv (.t 4)⟩,
        ⟨(some 9), none, .mv (.t 0)⟩,
        ⟨(some 10), none, .len (.t 9)⟩,
        ⟨(some 11), none, .bin .lss (.t 8) (.t 10)⟩]) (
     .cond (.t 11) (
      .skip) (
      .exit 0))) (
    .seq (
     .block 1 (
      .reg none [⟨(some 14), none, .mv (.t 3)⟩,
        ⟨(some 15), none, .mv (.t 4)⟩,
        ⟨(some 16), none, .mv (.t 0)⟩,
        ⟨(some 17), none, .mv (.t 4)⟩,
        ⟨(some 18), none, .iad 1 (.t 16) (.t 17)⟩,
        ⟨(some 19), none, .ld 1 false (.t 18)⟩,
        ⟨(some 20), none, .iad 1 (.t 14) (.t 15)⟩,
        ⟨none, none, .st 1 false (.t 20) (.t 19)⟩])) (
    .reg none [⟨(some 12), none, .mv (.t 4)⟩,
      ⟨(some 13), none, .bin .add (.t 12) (.c (.int .i64 (1)))⟩,
      ⟨(some 4), none, .asn (.t 13)⟩])))))) (
 .seq (
  .reg none [⟨(some 21), none, .mv (.t 3)⟩,
    ⟨(some 2), none, .asn (.t 21)⟩]) (
 .ret))))
def r_laws_toIntS : Nat × List RV := (22, [.t 2])

theorem c_laws_toIntS : cmpS PT PF PA (Try.prog.funcs[14]?) = some (r_laws_toIntS.1, r_laws_toIntS.2, stripK k_laws_toIntS) := by kernel_rfl

theorem h_toIntS (xs : List Int) (hx : wL w0 xs < 2 ^ 31) : CallsF Try.prog 14 [.one (.ar false 0 1 (xs.map rI))] (.one (.ar true 3 1 (xs.map rI))) := by
  refine Prun c_laws_toIntS (by simp [r_laws_toIntS]) (by simp) ?_
  unfold k_laws_toIntS r_laws_toIntS
  rw [wL_w0] at hx
  have hc : ((xs.length : Int) ≤ 4294967296) := by omega
  simp [hc]
  refine awp_loop (fun n σ => ∃ i : Nat, i ≤ xs.length ∧ n = xs.length - i ∧ σ = ⟨[(0, .one (.ar false 0 1 (xs.map rI))), (3, .one (.vw 3 1 3 [] 0 xs.length)), (4, aI i)], [(3, ⟨3, 1, part rI [.int .i64 0] xs i⟩)]⟩) (xs.length) ⟨0, by simp [part_zero]⟩ ?_
  rintro n σ ⟨i, hi, rfl, rfl⟩
  by_cases h : i < xs.length
  · simp [h, part_get h]
    refine ⟨xs.length - (i + 1), by omega, i + 1, by omega, rfl, ?_⟩
    rw [wrapI (by omega) (by omega)]
    have := part_set (r := rI) (z := [.int .i64 0]) h
    simp only [rI] at this
    simp [this]
  · have : i = xs.length := by omega
    subst this
    simp [part_all]
end Go.Am
-- Conf_y
namespace Go.Am
open Go.Proofs
set_option maxHeartbeats 4000000
structure TConf where
  alt : Int
  row : List Int
  deriving DecidableEq, Inhabited
def rConf (a : TConf) : List C := [cI a.alt, .ar true 3 1 (a.row.map rI)]
def sConf (a : TConf) : List C := [cI a.alt, .ar false 0 1 (a.row.map rI)]
def zConf : List C := [cI 0, .ar true 3 1 []]
@[simp] theorem rConf_len (a : TConf) : (rConf a).length = 2 := rfl
@[simp] theorem sConf_len (a : TConf) : (sConf a).length = 2 := rfl
@[simp] theorem shr_rConf (a : TConf) : shrRow (rConf a) = sConf a := by simp [rConf, sConf]
@[simp] theorem shr_sConf (a : TConf) : shrRow (sConf a) = sConf a := by simp [sConf]
@[simp] theorem shrs_rConf (xs : List TConf) : shrRows (xs.map rConf) = xs.map sConf := shrRows_of shr_rConf xs
@[simp] theorem shrs_sConf (xs : List TConf) : shrRows (xs.map sConf) = xs.map sConf := shrRows_of shr_sConf xs
@[simp] theorem noSh_rConf (xs : List TConf) : noShRows (xs.map rConf) = true := noSh_of (fun a => by simp [rConf]) xs
def wConf (a : TConf) : Nat := wL w0 a.row
def lConf (a : TConf) : Prop := lL l0 a.row
def mConf : Mk TConf := ⟨fun a k => ⟨k, mI.mkL a.row (k + 1)⟩, fun a => 1 + mI.nL a.row⟩
@[simp] theorem mConf_wr (a : TConf) (k : Int) : mConf.wr a k = ⟨k, mI.mkL a.row (k + 1)⟩ := rfl
@[simp] theorem mConf_n (a : TConf) : mConf.n a = 1 + mI.nL a.row := rfl
end Go.Am
-- SameConf
namespace Go.Am
open Go.Proofs
set_option maxHeartbeats 4000000
def ordC (a b : TConf) : Int := orI [ordI a.alt b.alt, ordL a.row b.row]
theorem ordC_eq {a b : TConf} : ordC a b = 0 ↔ a = b := by
  obtain ⟨a1, a2⟩ := a
  obtain ⟨b1, b2⟩ := b
  simp only [ordC, orI, TConf.mk.injEq]
  by_cases h : ordI a1 b1 = 0
  · rw [if_pos h]
    have h1 := ordI_eq.1 h
    by_cases h2 : ordL a2 b2 = 0
    · have h3 := ordL_eq.1 h2
      subst h3
      simp [h2, h1]
    · have : ¬ a2 = b2 := fun e => h2 (ordL_eq.2 e)
      simp [h2, this]
  · have : ¬ a1 = b1 := fun e => h (ordI_eq.2 e)
    simp [h, this]
-- 79 loop.example/g00485/spec.l11Cmp
def k_spec_l11Cmp : K :=
 .seq (
  .reg none [⟨(some 2), none, .box 85 2 (.t 0)⟩,
    ⟨(some 3), none, .box 85 2 (.t 1)⟩,
    ⟨(some 4), none, .asn (.c (.int .i64 (0)))⟩]) (
 .seq (
  .seq (
   .reg none [⟨(some 5), none, .fad 0 (.t 2)⟩,
     ⟨(some 6), none, .ld 1 false (.t 5)⟩,
     ⟨(some 7), none, .fad 0 (.t 3)⟩,
     ⟨(some 8), none, .ld 1 false (.t 7)⟩,
     ⟨(some 9), none, .bin .lss (.t 6) (.t 8)⟩]) (
  .cond (.t 9) (
   .seq (
    .reg none [⟨(some 4), none, .asn (.c (.int .i64 (-1)))⟩]) (
   .ret)) (
   .skip))) (
 .seq (
  .seq (
   .reg none [⟨(some 10), none, .fad 0 (.t 2)⟩,
     ⟨(some 11), none, .ld 1 false (.t 10)⟩,
     ⟨(some 12), none, .fad 0 (.t 3)⟩,
     ⟨(some 13), none, .ld 1 false (.t 12)⟩,
     ⟨(some 14), none, .bin .gtr (.t 11) (.t 13)⟩]) (
  .cond (.t 14) (
   .seq (
    .reg none [⟨(some 4), none, .asn (.c (.int .i64 (1)))⟩]) (
   .ret)) (
   .skip))) (
 .seq (
  .reg none [⟨(some 15), none, .fad 1 (.t 2)⟩,
    ⟨(some 16), none, .ld 1 false (.t 15)⟩,
    ⟨(some 17), none, .fad 1 (.t 3)⟩,
    ⟨(some 18), none, .ld 1 false (.t 17)⟩,
    ⟨(some 19), none, .call 93 [(.t 16), (.t 18)]⟩,
    ⟨(some 4), none, .asn (.t 19)⟩]) (
 .ret))))
def r_spec_l11Cmp : Nat × List RV := (20, [.t 4])

theorem c_spec_l11Cmp : cmpS PT PF PA (Try.prog.funcs[79]?) = some (r_spec_l11Cmp.1, r_spec_l11Cmp.2, stripK k_spec_l11Cmp) := by kernel_rfl

theorem h_spec_l11Cmp (a b : TConf) (ha : wConf a < 2 ^ 40) : CallsF Try.prog 79 [.agg (sConf a), .agg (sConf b)] (aI (ordC a b)) := by
  refine Prun c_spec_l11Cmp (by simp [r_spec_l11Cmp]) (by simp) ?_
  unfold k_spec_l11Cmp r_spec_l11Cmp
  simp only [wConf, wL_w0] at ha
  simp [sConf]
  by_cases c1 : a.alt < b.alt
  · simp [c1, ordC, orI, ordI]
  · by_cases c2 : b.alt < a.alt
    · simp [c1, c2, ordC, orI, ordI]
    · have e : ordC a b = ordL a.row b.row := by
        have : ordI a.alt b.alt = 0 := by unfold ordI; rw [if_neg c1, if_neg c2]
        simp only [ordC, orI, this, if_true]
        split <;> simp_all
      simp [c1, c2]
      refine callG_F (h_spec_ListCmp a.row b.row (by omega)) (by simp) ?_
      simp [e]
-- 100 loop.example/g00485/impl.compareConfs
def k_impl_compareConfs : K :=
 .seq (
  .reg none [⟨(some 2), none, .box 85 2 (.t 0)⟩,
    ⟨(some 3), none, .box 85 2 (.t 1)⟩,
    ⟨(some 4), none, .asn (.c (.int .i64 (0)))⟩]) (
 .seq (
  .drw none 10 [⟨(some 5), none, .fad 0 (.t 2)⟩,
    ⟨(some 6), none, .ld 1 false (.t 5)⟩,
    ⟨(some 7), none, .fad 0 (.t 3)⟩,
    ⟨(some 8), none, .ld 1 false (.t 7)⟩,
    ⟨(some 9), none, .call 109 [(.t 6), (.t 8)]⟩,
    ⟨(some 10), none, .fad 1 (.t 2)⟩,
    ⟨(some 11), none, .ld 1 false (.t 10)⟩,
    ⟨(some 12), none, .fad 1 (.t 3)⟩,
    ⟨(some 13), none, .ld 1 false (.t 12)⟩,
    ⟨(some 14), none, .call 110 [(.t 11), (.t 13)]⟩,
    ⟨(some 15), none, .bls 3 1 false [(.t 9), (.t 14)]⟩,
    ⟨(some 16), none, .call 108 [(.t 15)]⟩,
    ⟨(some 4), none, .asn (.t 16)⟩]) (
 .ret))
def r_impl_compareConfs : Nat × List RV := (17, [.t 4])

theorem c_impl_compareConfs : cmpS PT PF PA (Try.prog.funcs[100]?) = some (r_impl_compareConfs.1, r_impl_compareConfs.2, stripK k_impl_compareConfs) := by kernel_rfl

theorem h_impl_compareConfs (a b : TConf) (ha : wConf a < 2 ^ 40) : CallsF Try.prog 100 [.agg (sConf a), .agg (sConf b)] (aI (ordC a b)) := by
  refine Prun c_impl_compareConfs (by simp [r_impl_compareConfs]) (by simp) ?_
  unfold k_impl_compareConfs r_impl_compareConfs
  simp only [wConf, wL_w0] at ha
  simp [sConf]
  refine ⟨_, by simp, h_cmpCompare _ _, ?_⟩
  simp
  refine ⟨_, by simp, h_slicesCompare a.row b.row (by omega), ?_⟩
  simp
  refine callG_F (h_cmpOr [ordI a.alt b.alt, ordL a.row b.row] (by simp)) (by simp) ?_
  simp [ordC]
-- 95 loop.example/g00485/impl.sameConf
def k_impl_sameConf : K :=
 .seq (
  .reg none [⟨(some 2), none, .box 85 2 (.t 0)⟩,
    ⟨(some 3), none, .box 85 2 (.t 1)⟩,
    ⟨(some 4), none, .asn (.c (.bool false))⟩]) (
 .seq (
  .reg none [⟨(some 5), none, .ld 2 true (.t 2)⟩,
    ⟨(some 6), none, .ld 2 true (.t 3)⟩,
    ⟨(some 7), none, .call 100 [(.t 5), (.t 6)]⟩,
    ⟨(some 8), none, .bin .eql (.t 7) (.c (.int .i64 (0)))⟩,
    ⟨(some 4), none, .asn (.t 8)⟩]) (
 .ret))
def r_impl_sameConf : Nat × List RV := (9, [.t 4])

theorem c_impl_sameConf : cmpS PT PF PA (Try.prog.funcs[95]?) = some (r_impl_sameConf.1, r_impl_sameConf.2, stripK k_impl_sameConf) := by kernel_rfl

theorem h_impl_sameConf (a b : TConf) (ha : wConf a < 2 ^ 40) : CallsF Try.prog 95 [.agg (sConf a), .agg (sConf b)] (aB (decide (a = b))) := by
  refine Prun c_impl_sameConf (by simp [r_impl_sameConf]) (by simp) ?_
  unfold k_impl_sameConf r_impl_sameConf
  simp [sConf]
  refine callG_F (h_impl_compareConfs a b ha) (by simp) ?_
  by_cases h : a = b
  · simp [h, ordC_eq.2 rfl]
  · have : ¬ ordC a b = 0 := fun e => h (ordC_eq.1 e)
    simp [h, this]
-- 57 loop.example/g00485/spec.l12Sets
def k_spec_l12Sets : K :=
 .seq (
  .reg none [⟨(some 4), none, .asn (.c (.bool false))⟩]) (
 .seq (
  .seq (
   .reg none [⟨(some 6), none, .mv (.t 0)⟩,
     ⟨(some 7), none, .len (.t 6)⟩,
     ⟨(some 8), none, .mv (.t 1)⟩,
     ⟨(some 9), none, .len (.t 8)⟩,
     ⟨(some 10), none, .bin .neq (.t 7) (.t 9)⟩]) (
  .cond (.t 10) (
   .seq (
    .reg none [⟨(some 4), none, .asn (.c (.bool false))⟩]) (
   .ret)) (
   .skip))) (
 .seq (
  .seq (
   .reg none [⟨(some 5), none, .asn (.c (.int .i64 (0)))⟩]) (
  .block 0 (
   .loop (some ([0, 1, 5], [0, 1, 5, 1000])) (
    .seq (
     .seq (
      .reg none [⟨(some 11), none, .mv (.t 5)⟩,
        ⟨(some 12), none, .mv (.t 0)⟩,
        ⟨(some 13), none, .len (.t 12)⟩,
        ⟨(some 14), none, .bin .lss (.t 11) (.t 13)⟩]) (
     .cond (.t 14) (
      .skip) (
      .exit 0))) (
    .seq (
     .block 1 (
      .seq (
       .drw none 10 [⟨(some 17), none, .mv (.t 0)⟩,
         ⟨(some 18), none, .mv (.t 5)⟩,
         ⟨(some 19), none, .iad 2 (.t 17) (.t 18)⟩,
         ⟨(some 20), none, .ld 2 true (.t 19)⟩,
         ⟨(some 21), none, .mv (.t 1)⟩,
         ⟨(some 22), none, .mv (.t 5)⟩,
         ⟨(some 23), none, .iad 2 (.t 21) (.t 22)⟩,
         ⟨(some 24), none, .ld 2 true (.t 23)⟩,
         ⟨(some 25), none, .call 79 [(.t 20), (.t 24)]⟩,
         ⟨(some 26), none, .bin .neq (.t 25) (.c (.int .i64 (0)))⟩]) (
      .cond (.t 26) (
       .seq (
        .reg none [⟨(some 4), none, .asn (.c (.bool false))⟩]) (
       .ret)) (
       .skip)))) (
    .reg none [⟨(some 15), none, .mv (.t 5)⟩,
      ⟨(some 16), none, .bin .add (.t 15) (.c (.int .i64 (1)))⟩,
      ⟨(some 5), none, .asn (.t 16)⟩])))))) (
 .seq (
  .reg none [⟨(some 4), none, .asn (.c (.bool true))⟩]) (
 .ret))))
def r_spec_l12Sets : Nat × List RV := (27, [.t 4])

theorem c_spec_l12Sets : cmpS PT PF PA (Try.prog.funcs[57]?) = some (r_spec_l12Sets.1, r_spec_l12Sets.2, stripK k_spec_l12Sets) := by kernel_rfl

theorem h_spec_l12Sets (xs ys : List TConf) (hx : wL wConf xs < 2 ^ 40) : CallsF Try.prog 57 [.one (.ar false 0 2 (xs.map sConf)), .one (.ar false 0 2 (ys.map sConf))] (aB (decide (xs = ys))) := by
  refine Prun c_spec_l12Sets (by simp [r_spec_l12Sets]) (by simp) ?_
  unfold k_spec_l12Sets r_spec_l12Sets
  have hlen := wL_len wConf xs
  by_cases hl : xs.length = ys.length
  · simp [hl]
    refine awp_loop (fun n σ => ∃ i : Nat, i ≤ xs.length ∧ n = xs.length - i ∧ xs.take i = ys.take i ∧ σ = ⟨[(0, .one (.ar false 0 2 (xs.map sConf))), (1, .one (.ar false 0 2 (ys.map sConf))), (5, aI i)], []⟩) (xs.length) ⟨0, by simp⟩ ?_
    rintro n σ ⟨i, hi, rfl, ht, rfl⟩
    by_cases h : i < xs.length
    · have h2 : i < ys.length := by omega
      have hw := wL_get wConf xs i h
      simp [h, h2, sConf]
      refine ⟨_, by simp, h_spec_l11Cmp xs[i] ys[i] (by omega), ?_⟩
      by_cases he : xs[i] = ys[i]
      · simp [ordC_eq.2 he]
        refine ⟨xs.length - (i + 1), by omega, i + 1, by omega, rfl, (take_step h h2).2 ⟨ht, he⟩, ?_⟩
        rw [wrapI (by omega) (by omega)]
        simp
      · have : ¬ ordC xs[i] ys[i] = 0 := fun e => he (ordC_eq.1 e)
        simp [this]
        intro hh
        subst hh
        exact he rfl
    · simp [h]
      have : i = xs.length := by omega
      rw [this, List.take_length, hl, List.take_length] at ht
      exact ht
  · have : ¬ (xs.length : Int) = ys.length := by omega
    simp [this]
    rintro rfl
    exact hl rfl
end Go.Am
-- EqF_Conf
namespace Go.Am
open Go.Proofs
set_option maxHeartbeats 4000000
-- 94 slices.EqualFunc[[]loop.example/g00485/impl.Conf,[]loop.example/g00485/impl.Conf,loop.example/g00485/impl.Conf,loop.example/g00485/impl.Conf]
def k_slices_EqualFunc_impl_Conf_impl_Conf_impl_Conf_impl_Conf : K :=
 .seq (
  .reg none [⟨(some 6), none, .asn (.c (.bool false))⟩]) (
 .seq (
  .seq (
   .reg none [⟨(some 10), none, .mv (.t 0)⟩,
     ⟨(some 11), none, .len (.t 10)⟩,
     ⟨(some 12), none, .mv (.t 1)⟩,
     ⟨(some 13), none, .len (.t 12)⟩,
     ⟨(some 14), none, .bin .neq (.t 11) (.t 13)⟩]) (
  .cond (.t 14) (
   .seq (
    .reg none [⟨(some 6), none, .asn (.c (.bool false))⟩]) (
   .ret)) (
   .skip))) (
 .seq (
  .seq (
   .reg none [⟨(some 15), none, .mv (.t 0)⟩,
     ⟨(some 16), none, .len (.t 15)⟩,
     ⟨(some 17), none, .mv (.c (.int .i64 (0)))⟩]) (
  .block 0 (
   .loop (some ([1, 2, 15, 16, 17], [0, 1, 2, 1000])) (
    .seq (
     .reg none [⟨(some 18), none, .bin .lss (.t 17) (.t 16)⟩]) (
    .seq (
     .cond (.t 18) (
      .skip) (
      .exit 0)) (
    .seq (
     .block 1 (
      .seq (
       .reg none [⟨(some 19), none, .mv (.t 17)⟩,
         ⟨(some 20), none, .iad 2 (.t 15) (.t 17)⟩,
         ⟨(some 21), none, .ld 2 true (.t 20)⟩,
         ⟨(some 8), none, .alc 85 2 [(.int .i64 (0)), (.ar true 3 1 [])]⟩,
         ⟨(some 7), none, .asn (.t 19)⟩,
         ⟨none, none, .st 2 false (.t 8) (.t 21)⟩]) (
      .seq (
       .reg none [⟨(some 22), none, .mv (.t 1)⟩,
         ⟨(some 23), none, .mv (.t 7)⟩,
         ⟨(some 24), none, .iad 2 (.t 22) (.t 23)⟩,
         ⟨(some 25), none, .ld 2 true (.t 24)⟩,
         ⟨(some 9), none, .alc 85 2 [(.int .i64 (0)), (.ar true 3 1 [])]⟩,
         ⟨none, none, .st 2 false (.t 9) (.t 25)⟩]) (
      .seq (
       .reg none [⟨(some 26), none, .mv (.t 2)⟩,
         ⟨(some 27), none, .ld 2 true (.t 8)⟩,
         ⟨(some 28), none, .ld 2 true (.t 9)⟩,
         ⟨(some 29), none, .callv (.t 26) [(.t 27), (.t 28)]⟩,
         ⟨(some 30), none, .not (.t 29)⟩]) (
      .cond (.t 30) (
       .seq (
        .reg none [⟨(some 6), none, .asn (.c (.bool false))⟩]) (
       .ret)) (
       .skip)))))) (
    .reg none [⟨(some 31), none, .bin .add (.t 17) (.c (.int .i64 (1)))⟩,
      ⟨(some 17), none, .mv (.t 31)⟩]))))))) (
 .seq (
  .reg none [⟨(some 6), none, .asn (.c (.bool true))⟩]) (
 .ret))))
def r_slices_EqualFunc_impl_Conf_impl_Conf_impl_Conf_impl_Conf : Nat × List RV := (32, [.t 6])

theorem c_slices_EqualFunc_impl_Conf_impl_Conf_impl_Conf_impl_Conf : cmpS PT PF PA (Try.prog.funcs[94]?) = some (r_slices_EqualFunc_impl_Conf_impl_Conf_impl_Conf_impl_Conf.1, r_slices_EqualFunc_impl_Conf_impl_Conf_impl_Conf_impl_Conf.2, stripK k_slices_EqualFunc_impl_Conf_impl_Conf_impl_Conf_impl_Conf) := by kernel_rfl

theorem h_EqF_Conf (f : Nat) (hf : PF.contains f = true) (xs ys : List TConf) (hx : xs.length < 2 ^ 40) (hc : ∀ i j (h : i < xs.length) (h2 : j < ys.length), CallsF Try.prog f [.agg (sConf xs[i]), .agg (sConf ys[j])] (aB (decide (xs[i] = ys[j])))) :
    CallsF Try.prog 94 [.one (.ar false 0 2 (xs.map sConf)), .one (.ar false 0 2 (ys.map sConf)), .one (.fn f [])] (aB (decide (xs = ys))) := by
  refine Prun c_slices_EqualFunc_impl_Conf_impl_Conf_impl_Conf_impl_Conf (by simp [r_slices_EqualFunc_impl_Conf_impl_Conf_impl_Conf_impl_Conf]) (by simp) ?_
  unfold k_slices_EqualFunc_impl_Conf_impl_Conf_impl_Conf_impl_Conf r_slices_EqualFunc_impl_Conf_impl_Conf_impl_Conf_impl_Conf
  have hok := PfnOk f hf
  by_cases hl : xs.length = ys.length
  · simp [hl]
    refine awp_loop (fun n σ => ∃ i : Nat, i ≤ xs.length ∧ n = xs.length - i ∧ xs.take i = ys.take i ∧ σ = ⟨[(1, .one (.ar false 0 2 (ys.map sConf))), (2, .one (.fn f [])), (15, .one (.ar false 0 2 (xs.map sConf))), (16, aI xs.length), (17, aI i)], []⟩) (xs.length) ⟨0, by simp [hl]⟩ ?_
    rintro n σ ⟨i, hi, rfl, ht, rfl⟩
    by_cases h : i < xs.length
    · have h2 : i < ys.length := by omega
      simp [h, h2, sConf, hok]
      refine callG_F (hc i i h h2) (by simp) ?_
      by_cases he : xs[i] = ys[i]
      · simp [he]
        refine ⟨xs.length - (i + 1), by omega, i + 1, by omega, rfl, (take_step h h2).2 ⟨ht, he⟩, ?_⟩
        rw [wrapI (by omega) (by omega)]
        simp
      · simp [he]
        intro hh
        subst hh
        exact he rfl
    · simp [h]
      have : i = xs.length := by omega
      rw [this, List.take_length, hl, List.take_length] at ht
      exact ht
  · have : ¬ (xs.length : Int) = ys.length := by omega
    simp [this]
    rintro rfl
    exact hl rfl
end Go.Am
-- Line_y
namespace Go.Am
open Go.Proofs
set_option maxHeartbeats 4000000
structure TLine where
  frm : List TConf
  letter : Int
  too : List TConf
  deriving DecidableEq, Inhabited
def rLine (a : TLine) : List C := [.ar true 85 2 (a.frm.map rConf), cI a.letter, .ar true 85 2 (a.too.map rConf)]
def sLine (a : TLine) : List C := [.ar false 0 2 (a.frm.map sConf), cI a.letter, .ar false 0 2 (a.too.map sConf)]
def zLine : List C := [.ar true 85 2 [], cI 0, .ar true 85 2 []]
@[simp] theorem rLine_len (a : TLine) : (rLine a).length = 3 := rfl
@[simp] theorem sLine_len (a : TLine) : (sLine a).length = 3 := rfl
@[simp] theorem shr_rLine (a : TLine) : shrRow (rLine a) = sLine a := by simp [rLine, sLine]
@[simp] theorem shr_sLine (a : TLine) : shrRow (sLine a) = sLine a := by simp [sLine]
@[simp] theorem shrs_rLine (xs : List TLine) : shrRows (xs.map rLine) = xs.map sLine := shrRows_of shr_rLine xs
@[simp] theorem shrs_sLine (xs : List TLine) : shrRows (xs.map sLine) = xs.map sLine := shrRows_of shr_sLine xs
@[simp] theorem noSh_rLine (xs : List TLine) : noShRows (xs.map rLine) = true := noSh_of (fun a => by simp [rLine]) xs
def wLine (a : TLine) : Nat := wL wConf a.frm + wL wConf a.too
def lLine (a : TLine) : Prop := lL lConf a.frm ∧ lL lConf a.too
def mLine : Mk TLine := ⟨fun a k => ⟨mConf.mkL a.frm (k), k + mConf.nL a.frm, mConf.mkL a.too (k + mConf.nL a.frm + 1)⟩, fun a => mConf.nL a.frm + 1 + mConf.nL a.too⟩
@[simp] theorem mLine_wr (a : TLine) (k : Int) : mLine.wr a k = ⟨mConf.mkL a.frm (k), k + mConf.nL a.frm, mConf.mkL a.too (k + mConf.nL a.frm + 1)⟩ := rfl
@[simp] theorem mLine_n (a : TLine) : mLine.n a = mConf.nL a.frm + 1 + mConf.nL a.too := rfl
end Go.Am
-- EqF_Line
namespace Go.Am
open Go.Proofs
set_option maxHeartbeats 4000000
-- 59 slices.EqualFunc[[]loop.example/g00485/impl.Line,[]loop.example/g00485/impl.Line,loop.example/g00485/impl.Line,loop.example/g00485/impl.Line]
def k_slices_EqualFunc_impl_Line_impl_Line_impl_Line_impl_Line : K :=
 .seq (
  .reg none [⟨(some 6), none, .asn (.c (.bool false))⟩]) (
 .seq (
  .seq (
   .reg none [⟨(some 10), none, .mv (.t 0)⟩,
     ⟨(some 11), none, .len (.t 10)⟩,
     ⟨(some 12), none, .mv (.t 1)⟩,
     ⟨(some 13), none, .len (.t 12)⟩,
     ⟨(some 14), none, .bin .neq (.t 11) (.t 13)⟩]) (
  .cond (.t 14) (
   .seq (
    .reg none [⟨(some 6), none, .asn (.c (.bool false))⟩]) (
   .ret)) (
   .skip))) (
 .seq (
  .seq (
   .reg none [⟨(some 15), none, .mv (.t 0)⟩,
     ⟨(some 16), none, .len (.t 15)⟩,
     ⟨(some 17), none, .mv (.c (.int .i64 (0)))⟩]) (
  .block 0 (
   .loop (some ([1, 2, 15, 16, 17], [0, 1, 2, 1000])) (
    .seq (
     .reg none [⟨(some 18), none, .bin .lss (.t 17) (.t 16)⟩]) (
    .seq (
     .cond (.t 18) (
      .skip) (
      .exit 0)) (
    .seq (
     .block 1 (
      .seq (
       .reg none [⟨(some 19), none, .mv (.t 17)⟩,
         ⟨(some 20), none, .iad 3 (.t 15) (.t 17)⟩,
         ⟨(some 21), none, .ld 3 true (.t 20)⟩,
         ⟨(some 8), none, .alc 90 3 [(.ar true 85 2 []), (.int .i64 (0)), (.ar true 85 2 [])]⟩,
         ⟨(some 7), none, .asn (.t 19)⟩,
         ⟨none, none, .st 3 false (.t 8) (.t 21)⟩]) (
      .seq (
       .reg none [⟨(some 22), none, .mv (.t 1)⟩,
         ⟨(some 23), none, .mv (.t 7)⟩,
         ⟨(some 24), none, .iad 3 (.t 22) (.t 23)⟩,
         ⟨(some 25), none, .ld 3 true (.t 24)⟩,
         ⟨(some 9), none, .alc 90 3 [(.ar true 85 2 []), (.int .i64 (0)), (.ar true 85 2 [])]⟩,
         ⟨none, none, .st 3 false (.t 9) (.t 25)⟩]) (
      .seq (
       .reg none [⟨(some 26), none, .mv (.t 2)⟩,
         ⟨(some 27), none, .ld 3 true (.t 8)⟩,
         ⟨(some 28), none, .ld 3 true (.t 9)⟩,
         ⟨(some 29), none, .callv (.t 26) [(.t 27), (.t 28)]⟩,
         ⟨(some 30), none, .not (.t 29)⟩]) (
      .cond (.t 30) (
       .seq (
        .reg none [⟨(some 6), none, .asn (.c (.bool false))⟩]) (
       .ret)) (
       .skip)))))) (
    .reg none [⟨(some 31), none, .bin .add (.t 17) (.c (.int .i64 (1)))⟩,
      ⟨(some 17), none, .mv (.t 31)⟩]))))))) (
 .seq (
  .reg none [⟨(some 6), none, .asn (.c (.bool true))⟩]) (
 .ret))))
def r_slices_EqualFunc_impl_Line_impl_Line_impl_Line_impl_Line : Nat × List RV := (32, [.t 6])

theorem c_slices_EqualFunc_impl_Line_impl_Line_impl_Line_impl_Line : cmpS PT PF PA (Try.prog.funcs[59]?) = some (r_slices_EqualFunc_impl_Line_impl_Line_impl_Line_impl_Line.1, r_slices_EqualFunc_impl_Line_impl_Line_impl_Line_impl_Line.2, stripK k_slices_EqualFunc_impl_Line_impl_Line_impl_Line_impl_Line) := by kernel_rfl

theorem h_EqF_Line (f : Nat) (hf : PF.contains f = true) (xs ys : List TLine) (hx : xs.length < 2 ^ 40) (hc : ∀ i j (h : i < xs.length) (h2 : j < ys.length), CallsF Try.prog f [.agg (sLine xs[i]), .agg (sLine ys[j])] (aB (decide (xs[i] = ys[j])))) :
    CallsF Try.prog 59 [.one (.ar false 0 3 (xs.map sLine)), .one (.ar false 0 3 (ys.map sLine)), .one (.fn f [])] (aB (decide (xs = ys))) := by
  refine Prun c_slices_EqualFunc_impl_Line_impl_Line_impl_Line_impl_Line (by simp [r_slices_EqualFunc_impl_Line_impl_Line_impl_Line_impl_Line]) (by simp) ?_
  unfold k_slices_EqualFunc_impl_Line_impl_Line_impl_Line_impl_Line r_slices_EqualFunc_impl_Line_impl_Line_impl_Line_impl_Line
  have hok := PfnOk f hf
  by_cases hl : xs.length = ys.length
  · simp [hl]
    refine awp_loop (fun n σ => ∃ i : Nat, i ≤ xs.length ∧ n = xs.length - i ∧ xs.take i = ys.take i ∧ σ = ⟨[(1, .one (.ar false 0 3 (ys.map sLine))), (2, .one (.fn f [])), (15, .one (.ar false 0 3 (xs.map sLine))), (16, aI xs.length), (17, aI i)], []⟩) (xs.length) ⟨0, by simp [hl]⟩ ?_
    rintro n σ ⟨i, hi, rfl, ht, rfl⟩
    by_cases h : i < xs.length
    · have h2 : i < ys.length := by omega
      simp [h, h2, sLine, hok]
      refine callG_F (hc i i h h2) (by simp) ?_
      by_cases he : xs[i] = ys[i]
      · simp [he]
        refine ⟨xs.length - (i + 1), by omega, i + 1, by omega, rfl, (take_step h h2).2 ⟨ht, he⟩, ?_⟩
        rw [wrapI (by omega) (by omega)]
        simp
      · simp [he]
        intro hh
        subst hh
        exact he rfl
    · simp [h]
      have : i = xs.length := by omega
      rw [this, List.take_length, hl, List.take_length] at ht
      exact ht
  · have : ¬ (xs.length : Int) = ys.length := by omega
    simp [this]
    rintro rfl
    exact hl rfl
end Go.Am
-- Store_y
namespace Go.Am
open Go.Proofs
set_option maxHeartbeats 4000000
structure TStore where
  cap : Int
  lines : List TLine
  deriving DecidableEq, Inhabited
def rStore (a : TStore) : List C := [cI a.cap, .ar true 90 3 (a.lines.map rLine)]
def sStore (a : TStore) : List C := [cI a.cap, .ar false 0 3 (a.lines.map sLine)]
def zStore : List C := [cI 0, .ar true 90 3 []]
@[simp] theorem rStore_len (a : TStore) : (rStore a).length = 2 := rfl
@[simp] theorem sStore_len (a : TStore) : (sStore a).length = 2 := rfl
@[simp] theorem shr_rStore (a : TStore) : shrRow (rStore a) = sStore a := by simp [rStore, sStore]
@[simp] theorem shr_sStore (a : TStore) : shrRow (sStore a) = sStore a := by simp [sStore]
@[simp] theorem shrs_rStore (xs : List TStore) : shrRows (xs.map rStore) = xs.map sStore := shrRows_of shr_rStore xs
@[simp] theorem shrs_sStore (xs : List TStore) : shrRows (xs.map sStore) = xs.map sStore := shrRows_of shr_sStore xs
@[simp] theorem noSh_rStore (xs : List TStore) : noShRows (xs.map rStore) = true := noSh_of (fun a => by simp [rStore]) xs
def wStore (a : TStore) : Nat := wL wLine a.lines
def lStore (a : TStore) : Prop := lL lLine a.lines
def mStore : Mk TStore := ⟨fun a k => ⟨k, mLine.mkL a.lines (k + 1)⟩, fun a => 1 + mLine.nL a.lines⟩
@[simp] theorem mStore_wr (a : TStore) (k : Int) : mStore.wr a k = ⟨k, mLine.mkL a.lines (k + 1)⟩ := rfl
@[simp] theorem mStore_n (a : TStore) : mStore.n a = 1 + mLine.nL a.lines := rfl
end Go.Am
-- StoreSame
namespace Go.Am
open Go.Proofs
set_option maxHeartbeats 4000000
-- 81 loop.example/g00485/impl.sameSet
def k_impl_sameSet : K :=
 .seq (
  .reg none [⟨(some 4), none, .asn (.c (.bool false))⟩]) (
 .seq (
  .reg none [⟨(some 5), none, .mv (.t 0)⟩,
    ⟨(some 6), none, .mv (.t 1)⟩,
    ⟨(some 7), none, .call 94 [(.t 5), (.t 6), (.c (.fn 95 []))]⟩,
    ⟨(some 4), none, .asn (.t 7)⟩]) (
 .ret))
def r_impl_sameSet : Nat × List RV := (8, [.t 4])

theorem c_impl_sameSet : cmpS PT PF PA (Try.prog.funcs[81]?) = some (r_impl_sameSet.1, r_impl_sameSet.2, stripK k_impl_sameSet) := by kernel_rfl

theorem h_impl_sameSet (xs ys : List TConf) (hx : wL wConf xs < 2 ^ 40) : CallsF Try.prog 81 [.one (.ar false 0 2 (xs.map sConf)), .one (.ar false 0 2 (ys.map sConf))] (aB (decide (xs = ys))) := by
  refine Prun c_impl_sameSet (by simp [r_impl_sameSet]) (by simp) ?_
  unfold k_impl_sameSet r_impl_sameSet
  have hlen := wL_len wConf xs
  simp
  refine callG_F (h_EqF_Conf 95 (by kernel_rfl) xs ys (by omega) fun i j h h2 => h_impl_sameConf _ _ (by have := wL_get wConf xs i h; omega)) (by simp) ?_
  simp
-- 60 loop.example/g00485/impl.sameLine
def k_impl_sameLine : K :=
 .seq (
  .reg none [⟨(some 2), none, .box 90 3 (.t 0)⟩,
    ⟨(some 3), none, .box 90 3 (.t 1)⟩,
    ⟨(some 4), none, .asn (.c (.bool false))⟩]) (
 .seq (
  .reg none [⟨(some 5), none, .fad 1 (.t 2)⟩,
    ⟨(some 6), none, .ld 1 false (.t 5)⟩,
    ⟨(some 7), none, .fad 1 (.t 3)⟩,
    ⟨(some 8), none, .ld 1 false (.t 7)⟩,
    ⟨(some 9), none, .bin .eql (.t 6) (.t 8)⟩,
    ⟨(some 10), none, .mv (.t 9)⟩,
    ⟨(some 11), (some (10, true)), .fad 0 (.t 2)⟩,
    ⟨(some 12), (some (10, true)), .ld 1 false (.t 11)⟩,
    ⟨(some 13), (some (10, true)), .fad 0 (.t 3)⟩,
    ⟨(some 14), (some (10, true)), .ld 1 false (.t 13)⟩,
    ⟨(some 15), (some (10, true)), .call 81 [(.t 12), (.t 14)]⟩,
    ⟨(some 16), none, .pick (.t 10) (.t 15) (.c (.bool false))⟩,
    ⟨(some 17), none, .mv (.t 16)⟩,
    ⟨(some 18), (some (17, true)), .fad 2 (.t 2)⟩,
    ⟨(some 19), (some (17, true)), .ld 1 false (.t 18)⟩,
    ⟨(some 20), (some (17, true)), .fad 2 (.t 3)⟩,
    ⟨(some 21), (some (17, true)), .ld 1 false (.t 20)⟩,
    ⟨(some 22), (some (17, true)), .call 81 [(.t 19), (.t 21)]⟩,
    ⟨(some 23), none, .pick (.t 17) (.t 22) (.c (.bool false))⟩,
    ⟨(some 4), none, .asn (.t 23)⟩]) (
 .ret))
def r_impl_sameLine : Nat × List RV := (24, [.t 4])

theorem c_impl_sameLine : cmpS PT PF PA (Try.prog.funcs[60]?) = some (r_impl_sameLine.1, r_impl_sameLine.2, stripK k_impl_sameLine) := by kernel_rfl

theorem h_impl_sameLine (a b : TLine) (ha : wLine a < 2 ^ 40) : CallsF Try.prog 60 [.agg (sLine a), .agg (sLine b)] (aB (decide (a = b))) := by
  refine Prun c_impl_sameLine (by simp [r_impl_sameLine]) (by simp) ?_
  unfold k_impl_sameLine r_impl_sameLine
  obtain ⟨a1, a2, a3⟩ := a
  obtain ⟨b1, b2, b3⟩ := b
  simp only [wLine] at ha
  by_cases h1 : a2 = b2
  case neg => simp [sLine, h1]
  simp [sLine, h1]
  refine callG_F (h_impl_sameSet a1 b1 (by omega)) (by simp) ?_
  by_cases h2 : a1 = b1
  case neg => simp [h2]
  simp [h2]
  refine callG_F (h_impl_sameSet a3 b3 (by omega)) (by simp) ?_
  simp
-- 36 loop.example/g00485/impl.StoreSame
def k_impl_StoreSame : K :=
 .seq (
  .reg none [⟨(some 2), none, .box 38 2 (.t 0)⟩,
    ⟨(some 3), none, .box 38 2 (.t 1)⟩,
    ⟨(some 4), none, .asn (.c (.bool false))⟩]) (
 .seq (
  .reg none [⟨(some 5), none, .fad 0 (.t 2)⟩,
    ⟨(some 6), none, .ld 1 false (.t 5)⟩,
    ⟨(some 7), none, .fad 0 (.t 3)⟩,
    ⟨(some 8), none, .ld 1 false (.t 7)⟩,
    ⟨(some 9), none, .bin .eql (.t 6) (.t 8)⟩,
    ⟨(some 10), none, .mv (.t 9)⟩,
    ⟨(some 11), (some (10, true)), .fad 1 (.t 2)⟩,
    ⟨(some 12), (some (10, true)), .ld 1 false (.t 11)⟩,
    ⟨(some 13), (some (10, true)), .fad 1 (.t 3)⟩,
    ⟨(some 14), (some (10, true)), .ld 1 false (.t 13)⟩,
    ⟨(some 15), (some (10, true)), .call 59 [(.t 12), (.t 14), (.c (.fn 60 []))]⟩,
    ⟨(some 16), none, .pick (.t 10) (.t 15) (.c (.bool false))⟩,
    ⟨(some 4), none, .asn (.t 16)⟩]) (
 .ret))
def r_impl_StoreSame : Nat × List RV := (17, [.t 4])

theorem c_impl_StoreSame : cmpS PT PF PA (Try.prog.funcs[36]?) = some (r_impl_StoreSame.1, r_impl_StoreSame.2, stripK k_impl_StoreSame) := by kernel_rfl

theorem h_impl_StoreSame (a b : TStore) (ha : wStore a < 2 ^ 40) : CallsF Try.prog 36 [.agg (sStore a), .agg (sStore b)] (aB (decide (a = b))) := by
  refine Prun c_impl_StoreSame (by simp [r_impl_StoreSame]) (by simp) ?_
  unfold k_impl_StoreSame r_impl_StoreSame
  obtain ⟨a1, a2⟩ := a
  obtain ⟨b1, b2⟩ := b
  simp only [wStore] at ha
  have hlen := wL_len wLine a2
  by_cases h1 : a1 = b1
  case neg => simp [sStore, h1]
  simp [sStore, h1]
  refine callG_F (h_EqF_Line 60 (by kernel_rfl) a2 b2 (by omega) fun i j h h2 => h_impl_sameLine _ _ (by have := wL_get wLine a2 i h; omega)) (by simp) ?_
  simp
-- 34 loop.example/g00485/spec.StoreSame
def k_spec_StoreSame : K :=
 .seq (
  .reg none [⟨(some 2), none, .box 38 2 (.t 0)⟩,
    ⟨(some 3), none, .box 38 2 (.t 1)⟩,
    ⟨(some 4), none, .asn (.c (.bool false))⟩]) (
 .seq (
  .seq (
   .reg none [⟨(some 6), none, .fad 0 (.t 2)⟩,
     ⟨(some 7), none, .ld 1 false (.t 6)⟩,
     ⟨(some 8), none, .fad 0 (.t 3)⟩,
     ⟨(some 9), none, .ld 1 false (.t 8)⟩,
     ⟨(some 10), none, .bin .neq (.t 7) (.t 9)⟩,
     ⟨(some 11), none, .mv (.t 10)⟩,
     ⟨(some 12), (some (11, false)), .fad 1 (.t 2)⟩,
     ⟨(some 13), (some (11, false)), .ld 1 false (.t 12)⟩,
     ⟨(some 14), (some (11, false)), .len (.t 13)⟩,
     ⟨(some 15), (some (11, false)), .fad 1 (.t 3)⟩,
     ⟨(some 16), (some (11, false)), .ld 1 false (.t 15)⟩,
     ⟨(some 17), (some (11, false)), .len (.t 16)⟩,
     ⟨(some 18), (some (11, false)), .bin .neq (.t 14) (.t 17)⟩,
     ⟨(some 19), none, .pick (.t 11) (.c (.bool true)) (.t 18)⟩]) (
  .cond (.t 19) (
   .seq (
    .reg none [⟨(some 4), none, .asn (.c (.bool false))⟩]) (
   .ret)) (
   .skip))) (
 .seq (
  .seq (
   .reg none [⟨(some 5), none, .asn (.c (.int .i64 (0)))⟩]) (
  .block 0 (
   .loop (some ([2, 3, 5], [2, 3, 5, 1000])) (
    .seq (
     .seq (
      .reg none [⟨(some 20), none, .mv (.t 5)⟩,
        ⟨(some 21), none, .fad 1 (.t 2)⟩,
        ⟨(some 22), none, .ld 1 false (.t 21)⟩,
        ⟨(some 23), none, .len (.t 22)⟩,
        ⟨(some 24), none, .bin .lss (.t 20) (.t 23)⟩]) (
     .cond (.t 24) (
      .skip) (
      .exit 0))) (
    .seq (
     .block 1 (
      .seq (
       .drw none 45 [⟨(some 27), none, .fad 1 (.t 2)⟩,
         ⟨(some 28), none, .ld 1 false (.t 27)⟩,
         ⟨(some 29), none, .mv (.t 5)⟩,
         ⟨(some 30), none, .iad 3 (.t 28) (.t 29)⟩,
         ⟨(some 31), none, .fad 1 (.t 30)⟩,
         ⟨(some 32), none, .ld 1 false (.t 31)⟩,
         ⟨(some 33), none, .fad 1 (.t 3)⟩,
         ⟨(some 34), none, .ld 1 false (.t 33)⟩,
         ⟨(some 35), none, .mv (.t 5)⟩,
         ⟨(some 36), none, .iad 3 (.t 34) (.t 35)⟩,
         ⟨(some 37), none, .fad 1 (.t 36)⟩,
         ⟨(some 38), none, .ld 1 false (.t 37)⟩,
         ⟨(some 39), none, .bin .neq (.t 32) (.t 38)⟩,
         ⟨(some 40), none, .mv (.t 39)⟩,
         ⟨(some 41), (some (40, false)), .fad 1 (.t 2)⟩,
         ⟨(some 42), (some (40, false)), .ld 1 false (.t 41)⟩,
         ⟨(some 43), (some (40, false)), .mv (.t 5)⟩,
         ⟨(some 44), (some (40, false)), .iad 3 (.t 42) (.t 43)⟩,
         ⟨(some 45), (some (40, false)), .fad 0 (.t 44)⟩,
         ⟨(some 46), (some (40, false)), .ld 1 false (.t 45)⟩,
         ⟨(some 47), (some (40, false)), .fad 1 (.t 3)⟩,
         ⟨(some 48), (some (40, false)), .ld 1 false (.t 47)⟩,
         ⟨(some 49), (some (40, false)), .mv (.t 5)⟩,
         ⟨(some 50), (some (40, false)), .iad 3 (.t 48) (.t 49)⟩,
         ⟨(some 51), (some (40, false)), .fad 0 (.t 50)⟩,
         ⟨(some 52), (some (40, false)), .ld 1 false (.t 51)⟩,
         ⟨(some 53), (some (40, false)), .call 57 [(.t 46), (.t 52)]⟩,
         ⟨(some 54), (some (40, false)), .not (.t 53)⟩,
         ⟨(some 55), none, .pick (.t 40) (.c (.bool true)) (.t 54)⟩,
         ⟨(some 56), none, .mv (.t 55)⟩,
         ⟨(some 57), (some (56, false)), .fad 1 (.t 2)⟩,
         ⟨(some 58), (some (56, false)), .ld 1 false (.t 57)⟩,
         ⟨(some 59), (some (56, false)), .mv (.t 5)⟩,
         ⟨(some 60), (some (56, false)), .iad 3 (.t 58) (.t 59)⟩,
         ⟨(some 61), (some (56, false)), .fad 2 (.t 60)⟩,
         ⟨(some 62), (some (56, false)), .ld 1 false (.t 61)⟩,
         ⟨(some 63), (some (56, false)), .fad 1 (.t 3)⟩,
         ⟨(some 64), (some (56, false)), .ld 1 false (.t 63)⟩,
         ⟨(some 65), (some (56, false)), .mv (.t 5)⟩,
         ⟨(some 66), (some (56, false)), .iad 3 (.t 64) (.t 65)⟩,
         ⟨(some 67), (some (56, false)), .fad 2 (.t 66)⟩,
         ⟨(some 68), (some (56, false)), .ld 1 false (.t 67)⟩,
         ⟨(some 69), (some (56, false)), .call 57 [(.t 62), (.t 68)]⟩,
         ⟨(some 70), (some (56, false)), .not (.t 69)⟩,
         ⟨(some 71), none, .pick (.t 56) (.c (.bool true)) (.t 70)⟩]) (
      .cond (.t 71) (
       .seq (
        .reg none [⟨(some 4), none, .asn (.c (.bool false))⟩]) (
       .ret)) (
       .skip)))) (
    .reg none [⟨(some 25), none, .mv (.t 5)⟩,
      ⟨(some 26), none, .bin .add (.t 25) (.c (.int .i64 (1)))⟩,
      ⟨(some 5), none, .asn (.t 26)⟩])))))) (
 .seq (
  .reg none [⟨(some 4), none, .asn (.c (.bool true))⟩]) (
 .ret))))
def r_spec_StoreSame : Nat × List RV := (72, [.t 4])

theorem c_spec_StoreSame : cmpS PT PF PA (Try.prog.funcs[34]?) = some (r_spec_StoreSame.1, r_spec_StoreSame.2, stripK k_spec_StoreSame) := by kernel_rfl

theorem h_spec_StoreSame (a b : TStore) (ha : wStore a < 2 ^ 40) : CallsF Try.prog 34 [.agg (sStore a), .agg (sStore b)] (aB (decide (a = b))) := by
  refine Prun c_spec_StoreSame (by simp [r_spec_StoreSame]) (by simp) ?_
  unfold k_spec_StoreSame r_spec_StoreSame
  obtain ⟨a1, xs⟩ := a
  obtain ⟨b1, ys⟩ := b
  simp only [wStore] at ha
  have hlen := wL_len wLine xs
  by_cases h1 : a1 = b1
  case neg => simp [sStore, h1]
  by_cases hl : xs.length = ys.length
  case neg =>
    have : ¬ (xs.length : Int) = ys.length := by omega
    simp [sStore, h1, this]
    rintro rfl
    exact hl rfl
  simp [sStore, h1, hl]
  refine awp_loop (fun n σ => ∃ i : Nat, i ≤ xs.length ∧ n = xs.length - i ∧ xs.take i = ys.take i ∧ σ = ⟨[(2, .one (.pt 2 2 [] 0 0)), (3, .one (.pt 2 3 [] 0 0)), (5, aI i)], [(2, ⟨38, 2, [[cI b1, .ar false 0 3 (xs.map sLine)]]⟩), (3, ⟨38, 2, [[cI b1, .ar false 0 3 (ys.map sLine)]]⟩)]⟩) (xs.length) ⟨0, by simp⟩ ?_
  rintro n σ ⟨i, hi, rfl, ht, rfl⟩
  by_cases h : i < xs.length
  · have h2 : i < ys.length := by omega
    have hw := wL_get wLine xs i h
    rcases ea : xs[i] with ⟨x1, x2, x3⟩
    rcases eb : ys[i] with ⟨y1, y2, y3⟩
    have hfin : ∀ (hne : ¬ xs[i] = ys[i]), ¬ xs = ys := fun hne hh => by subst hh; exact hne rfl
    rw [ea, eb] at hfin
    simp only [ea, wLine] at hw
    by_cases e1 : x2 = y2
    case neg =>
      simp [h, h2, sLine, ea, eb, e1]
      exact hfin (by simp [e1])
    simp [h, h2, sLine, ea, eb, e1]
    refine ⟨_, by simp, h_spec_l12Sets x1 y1 (by omega), ?_⟩
    by_cases e2 : x1 = y1
    case neg =>
      simp [e2]
      exact hfin (by simp [e2])
    simp [e2, h, h2, sLine, ea, eb]
    refine ⟨_, by simp, h_spec_l12Sets x3 y3 (by omega), ?_⟩
    by_cases e3 : x3 = y3
    case neg =>
      simp [e3]
      exact hfin (by simp [e3])
    simp [e3]
    refine ⟨xs.length - (i + 1), by omega, i + 1, by omega, rfl, (take_step h h2).2 ⟨ht, by rw [ea, eb, e1, e2, e3]⟩, ?_⟩
    rw [wrapI (by omega) (by omega)]
    simp
  · simp [h]
    have : i = xs.length := by omega
    rw [this, List.take_length, hl, List.take_length] at ht
    exact ht
end Go.Am
-- Conf_eq1
namespace Go.Am
open Go.Proofs
set_option maxHeartbeats 4000000
-- 55 loop.example/g00485/laws.eqConf
def k_laws_eqConf : K :=
 .seq (
  .reg none [⟨(some 2), none, .box 85 2 (.t 0)⟩,
    ⟨(some 3), none, .box 85 2 (.t 1)⟩,
    ⟨(some 4), none, .asn (.c (.bool false))⟩]) (
 .seq (
  .seq (
   .reg none [⟨(some 5), none, .fad 0 (.t 2)⟩,
     ⟨(some 6), none, .ld 1 false (.t 5)⟩,
     ⟨(some 7), none, .fad 0 (.t 3)⟩,
     ⟨(some 8), none, .ld 1 false (.t 7)⟩,
     ⟨(some 9), none, .bin .neq (.t 6) (.t 8)⟩]) (
  .cond (.t 9) (
   .seq (
    .reg none [⟨(some 4), none, .asn (.c (.bool false))⟩]) (
   .ret)) (
   .skip))) (
 .seq (
  .seq (
   .reg none [⟨(some 10), none, .fad 1 (.t 2)⟩,
     ⟨(some 11), none, .ld 1 false (.t 10)⟩,
     ⟨(some 12), none, .fad 1 (.t 3)⟩,
     ⟨(some 13), none, .ld 1 false (.t 12)⟩,
     ⟨(some 14), none, .call 17 [(.t 11), (.t 13)]⟩,
     ⟨(some 15), none, .not (.t 14)⟩]) (
  .cond (.t 15) (
   .seq (
    .reg none [⟨(some 4), none, .asn (.c (.bool false))⟩]) (
   .ret)) (
   .skip))) (
 .seq (
  .reg none [⟨(some 4), none, .asn (.c (.bool true))⟩]) (
 .ret))))
def r_laws_eqConf : Nat × List RV := (16, [.t 4])

theorem c_laws_eqConf : cmpS PT PF PA (Try.prog.funcs[55]?) = some (r_laws_eqConf.1, r_laws_eqConf.2, stripK k_laws_eqConf) := by kernel_rfl

theorem h_eqConf (a : TConf) (ha : wConf a < 2 ^ 40) : CallsF Try.prog 55 [.agg (sConf a), .agg (sConf a)] (aB true) := by
  refine Prun c_laws_eqConf (by simp [r_laws_eqConf]) (by simp) ?_
  unfold k_laws_eqConf r_laws_eqConf
  simp only [wConf] at ha
  simp [sConf]
  refine callG_F (h_eqIntS a.row (by omega)) (by simp) ?_
  simp
end Go.Am
-- Conf_eq
namespace Go.Am
open Go.Proofs
set_option maxHeartbeats 4000000
-- 31 loop.example/g00485/laws.eqConfS
def k_laws_eqConfS : K :=
 .seq (
  .reg none [⟨(some 4), none, .asn (.c (.bool false))⟩]) (
 .seq (
  .seq (
   .reg none [⟨(some 6), none, .mv (.t 0)⟩,
     ⟨(some 7), none, .len (.t 6)⟩,
     ⟨(some 8), none, .mv (.t 1)⟩,
     ⟨(some 9), none, .len (.t 8)⟩,
     ⟨(some 10), none, .bin .neq (.t 7) (.t 9)⟩]) (
  .cond (.t 10) (
   .seq (
    .reg none [⟨(some 4), none, .asn (.c (.bool false))⟩]) (
   .ret)) (
   .skip))) (
 .seq (
  .seq (
   .reg none [⟨(some 5), none, .asn (.c (.int .i64 (0)))⟩]) (
  .block 0 (
   .loop (some ([0, 1, 5], [0, 1, 5, 1000])) (
    .seq (
     .seq (
      .reg none [⟨(some 11), none, .mv (.t 5)⟩,
        ⟨(some 12), none, .mv (.t 0)⟩,
        ⟨(some 13), none, .len (.t 12)⟩,
        ⟨(some 14), none, .bin .lss (.t 11) (.t 13)⟩]) (
     .cond (.t 14) (
      .skip) (
      .exit 0))) (
    .seq (
     .block 1 (
      .seq (
       .drw none 10 [⟨(some 17), none, .mv (.t 0)⟩,
         ⟨(some 18), none, .mv (.t 5)⟩,
         ⟨(some 19), none, .iad 2 (.t 17) (.t 18)⟩,
         ⟨(some 20), none, .ld 2 true (.t 19)⟩,
         ⟨(some 21), none, .mv (.t 1)⟩,
         ⟨(some 22), none, .mv (.t 5)⟩,
         ⟨(some 23), none, .iad 2 (.t 21) (.t 22)⟩,
         ⟨(some 24), none, .ld 2 true (.t 23)⟩,
         ⟨(some 25), none, .call 55 [(.t 20), (.t 24)]⟩,
         ⟨(some 26), none, .not (.t 25)⟩]) (
      .cond (.t 26) (
       .seq (
        .reg none [⟨(some 4), none, .asn (.c (.bool false))⟩]) (
       .ret)) (
       .skip)))) (
    .reg none [⟨(some 15), none, .mv (.t 5)⟩,
      ⟨(some 16), none, .bin .add (.t 15) (.c (.int .i64 (1)))⟩,
      ⟨(some 5), none, .asn (.t 16)⟩])))))) (
 .seq (
  .reg none [⟨(some 4), none, .asn (.c (.bool true))⟩]) (
 .ret))))
def r_laws_eqConfS : Nat × List RV := (27, [.t 4])

theorem c_laws_eqConfS : cmpS PT PF PA (Try.prog.funcs[31]?) = some (r_laws_eqConfS.1, r_laws_eqConfS.2, stripK k_laws_eqConfS) := by kernel_rfl

theorem h_eqConfS (xs : List TConf) (hx : wL wConf xs < 2 ^ 40) : CallsF Try.prog 31 [.one (.ar false 0 2 (xs.map sConf)), .one (.ar false 0 2 (xs.map sConf))] (aB true) := by
  refine Prun c_laws_eqConfS (by simp [r_laws_eqConfS]) (by simp) ?_
  unfold k_laws_eqConfS r_laws_eqConfS
  have hlen := wL_len wConf xs
  simp
  refine awp_loop (fun n σ => ∃ i : Nat, i ≤ xs.length ∧ n = xs.length - i ∧ σ = ⟨[(0, .one (.ar false 0 2 (xs.map sConf))), (1, .one (.ar false 0 2 (xs.map sConf))), (5, aI i)], []⟩) (xs.length) ⟨0, by simp⟩ ?_
  rintro n σ ⟨i, hi, rfl, rfl⟩
  by_cases h : i < xs.length
  · have hw := wL_get wConf xs i h
    simp [h, sConf]
    refine ⟨_, by simp, h_eqConf xs[i] (by omega), ?_⟩
    simp
    refine ⟨xs.length - (i + 1), by omega, i + 1, by omega, rfl, ?_⟩
    rw [wrapI (by omega) (by omega)]
    simp
  · simp [h]
end Go.Am
-- Line_eq1
namespace Go.Am
open Go.Proofs
set_option maxHeartbeats 4000000
-- 72 loop.example/g00485/laws.eqLine
def k_laws_eqLine : K :=
 .seq (
  .reg none [⟨(some 2), none, .box 90 3 (.t 0)⟩,
    ⟨(some 3), none, .box 90 3 (.t 1)⟩,
    ⟨(some 4), none, .asn (.c (.bool false))⟩]) (
 .seq (
  .seq (
   .reg none [⟨(some 5), none, .fad 0 (.t 2)⟩,
     ⟨(some 6), none, .ld 1 false (.t 5)⟩,
     ⟨(some 7), none, .fad 0 (.t 3)⟩,
     ⟨(some 8), none, .ld 1 false (.t 7)⟩,
     ⟨(some 9), none, .call 31 [(.t 6), (.t 8)]⟩,
     ⟨(some 10), none, .not (.t 9)⟩]) (
  .cond (.t 10) (
   .seq (
    .reg none [⟨(some 4), none, .asn (.c (.bool false))⟩]) (
   .ret)) (
   .skip))) (
 .seq (
  .seq (
   .reg none [⟨(some 11), none, .fad 1 (.t 2)⟩,
     ⟨(some 12), none, .ld 1 false (.t 11)⟩,
     ⟨(some 13), none, .fad 1 (.t 3)⟩,
     ⟨(some 14), none, .ld 1 false (.t 13)⟩,
     ⟨(some 15), none, .bin .neq (.t 12) (.t 14)⟩]) (
  .cond (.t 15) (
   .seq (
    .reg none [⟨(some 4), none, .asn (.c (.bool false))⟩]) (
   .ret)) (
   .skip))) (
 .seq (
  .seq (
   .reg none [⟨(some 16), none, .fad 2 (.t 2)⟩,
     ⟨(some 17), none, .ld 1 false (.t 16)⟩,
     ⟨(some 18), none, .fad 2 (.t 3)⟩,
     ⟨(some 19), none, .ld 1 false (.t 18)⟩,
     ⟨(some 20), none, .call 31 [(.t 17), (.t 19)]⟩,
     ⟨(some 21), none, .not (.t 20)⟩]) (
  .cond (.t 21) (
   .seq (
    .reg none [⟨(some 4), none, .asn (.c (.bool false))⟩]) (
   .ret)) (
   .skip))) (
 .seq (
  .reg none [⟨(some 4), none, .asn (.c (.bool true))⟩]) (
 .ret)))))
def r_laws_eqLine : Nat × List RV := (22, [.t 4])

theorem c_laws_eqLine : cmpS PT PF PA (Try.prog.funcs[72]?) = some (r_laws_eqLine.1, r_laws_eqLine.2, stripK k_laws_eqLine) := by kernel_rfl

theorem h_eqLine (a : TLine) (ha : wLine a < 2 ^ 40) : CallsF Try.prog 72 [.agg (sLine a), .agg (sLine a)] (aB true) := by
  refine Prun c_laws_eqLine (by simp [r_laws_eqLine]) (by simp) ?_
  unfold k_laws_eqLine r_laws_eqLine
  simp only [wLine] at ha
  simp [sLine]
  refine callG_F (h_eqConfS a.frm (by omega)) (by simp) ?_
  simp
  refine callG_F (h_eqConfS a.too (by omega)) (by simp) ?_
  simp
end Go.Am
-- Line_eq
namespace Go.Am
open Go.Proofs
set_option maxHeartbeats 4000000
-- 48 loop.example/g00485/laws.eqLineS
def k_laws_eqLineS : K :=
 .seq (
  .reg none [⟨(some 4), none, .asn (.c (.bool false))⟩]) (
 .seq (
  .seq (
   .reg none [⟨(some 6), none, .mv (.t 0)⟩,
     ⟨(some 7), none, .len (.t 6)⟩,
     ⟨(some 8), none, .mv (.t 1)⟩,
     ⟨(some 9), none, .len (.t 8)⟩,
     ⟨(some 10), none, .bin .neq (.t 7) (.t 9)⟩]) (
  .cond (.t 10) (
   .seq (
    .reg none [⟨(some 4), none, .asn (.c (.bool false))⟩]) (
   .ret)) (
   .skip))) (
 .seq (
  .seq (
   .reg none [⟨(some 5), none, .asn (.c (.int .i64 (0)))⟩]) (
  .block 0 (
   .loop (some ([0, 1, 5], [0, 1, 5, 1000])) (
    .seq (
     .seq (
      .reg none [⟨(some 11), none, .mv (.t 5)⟩,
        ⟨(some 12), none, .mv (.t 0)⟩,
        ⟨(some 13), none, .len (.t 12)⟩,
        ⟨(some 14), none, .bin .lss (.t 11) (.t 13)⟩]) (
     .cond (.t 14) (
      .skip) (
      .exit 0))) (
    .seq (
     .block 1 (
      .seq (
       .drw none 10 [⟨(some 17), none, .mv (.t 0)⟩,
         ⟨(some 18), none, .mv (.t 5)⟩,
         ⟨(some 19), none, .iad 3 (.t 17) (.t 18)⟩,
         ⟨(some 20), none, .ld 3 true (.t 19)⟩,
         ⟨(some 21), none, .mv (.t 1)⟩,
         ⟨(some 22), none, .mv (.t 5)⟩,
         ⟨(some 23), none, .iad 3 (.t 21) (.t 22)⟩,
         ⟨(some 24), none, .ld 3 true (.t 23)⟩,
         ⟨(some 25), none, .call 72 [(.t 20), (.t 24)]⟩,
         ⟨(some 26), none, .not (.t 25)⟩]) (
      .cond (.t 26) (
       .seq (
        .reg none [⟨(some 4), none, .asn (.c (.bool false))⟩]) (
       .ret)) (
       .skip)))) (
    .reg none [⟨(some 15), none, .mv (.t 5)⟩,
      ⟨(some 16), none, .bin .add (.t 15) (.c (.int .i64 (1)))⟩,
      ⟨(some 5), none, .asn (.t 16)⟩])))))) (
 .seq (
  .reg none [⟨(some 4), none, .asn (.c (.bool true))⟩]) (
 .ret))))
def r_laws_eqLineS : Nat × List RV := (27, [.t 4])

theorem c_laws_eqLineS : cmpS PT PF PA (Try.prog.funcs[48]?) = some (r_laws_eqLineS.1, r_laws_eqLineS.2, stripK k_laws_eqLineS) := by kernel_rfl

theorem h_eqLineS (xs : List TLine) (hx : wL wLine xs < 2 ^ 40) : CallsF Try.prog 48 [.one (.ar false 0 3 (xs.map sLine)), .one (.ar false 0 3 (xs.map sLine))] (aB true) := by
  refine Prun c_laws_eqLineS (by simp [r_laws_eqLineS]) (by simp) ?_
  unfold k_laws_eqLineS r_laws_eqLineS
  have hlen := wL_len wLine xs
  simp
  refine awp_loop (fun n σ => ∃ i : Nat, i ≤ xs.length ∧ n = xs.length - i ∧ σ = ⟨[(0, .one (.ar false 0 3 (xs.map sLine))), (1, .one (.ar false 0 3 (xs.map sLine))), (5, aI i)], []⟩) (xs.length) ⟨0, by simp⟩ ?_
  rintro n σ ⟨i, hi, rfl, rfl⟩
  by_cases h : i < xs.length
  · have hw := wL_get wLine xs i h
    simp [h, sLine]
    refine ⟨_, by simp, h_eqLine xs[i] (by omega), ?_⟩
    simp
    refine ⟨xs.length - (i + 1), by omega, i + 1, by omega, rfl, ?_⟩
    rw [wrapI (by omega) (by omega)]
    simp
  · simp [h]
end Go.Am
-- Store_eq1
namespace Go.Am
open Go.Proofs
set_option maxHeartbeats 4000000
-- 24 loop.example/g00485/laws.eqStore
def k_laws_eqStore : K :=
 .seq (
  .reg none [⟨(some 2), none, .box 38 2 (.t 0)⟩,
    ⟨(some 3), none, .box 38 2 (.t 1)⟩,
    ⟨(some 4), none, .asn (.c (.bool false))⟩]) (
 .seq (
  .seq (
   .reg none [⟨(some 5), none, .fad 0 (.t 2)⟩,
     ⟨(some 6), none, .ld 1 false (.t 5)⟩,
     ⟨(some 7), none, .fad 0 (.t 3)⟩,
     ⟨(some 8), none, .ld 1 false (.t 7)⟩,
     ⟨(some 9), none, .bin .neq (.t 6) (.t 8)⟩]) (
  .cond (.t 9) (
   .seq (
    .reg none [⟨(some 4), none, .asn (.c (.bool false))⟩]) (
   .ret)) (
   .skip))) (
 .seq (
  .seq (
   .reg none [⟨(some 10), none, .fad 1 (.t 2)⟩,
     ⟨(some 11), none, .ld 1 false (.t 10)⟩,
     ⟨(some 12), none, .fad 1 (.t 3)⟩,
     ⟨(some 13), none, .ld 1 false (.t 12)⟩,
     ⟨(some 14), none, .call 48 [(.t 11), (.t 13)]⟩,
     ⟨(some 15), none, .not (.t 14)⟩]) (
  .cond (.t 15) (
   .seq (
    .reg none [⟨(some 4), none, .asn (.c (.bool false))⟩]) (
   .ret)) (
   .skip))) (
 .seq (
  .reg none [⟨(some 4), none, .asn (.c (.bool true))⟩]) (
 .ret))))
def r_laws_eqStore : Nat × List RV := (16, [.t 4])

theorem c_laws_eqStore : cmpS PT PF PA (Try.prog.funcs[24]?) = some (r_laws_eqStore.1, r_laws_eqStore.2, stripK k_laws_eqStore) := by kernel_rfl

theorem h_eqStore (a : TStore) (ha : wStore a < 2 ^ 40) : CallsF Try.prog 24 [.agg (sStore a), .agg (sStore a)] (aB true) := by
  refine Prun c_laws_eqStore (by simp [r_laws_eqStore]) (by simp) ?_
  unfold k_laws_eqStore r_laws_eqStore
  simp only [wStore] at ha
  simp [sStore]
  refine callG_F (h_eqLineS a.lines (by omega)) (by simp) ?_
  simp
end Go.Am
-- intm
namespace Go.Am
open Go.Proofs
set_option maxHeartbeats 4000000
-- 74 loop.example/g00485/laws.szIntS
def k_laws_szIntS : K :=
 .seq (
  .reg none [⟨(some 4), none, .asn (.c (.int .i64 (0)))⟩]) (
 .seq (
  .reg none [⟨(some 5), none, .mv (.t 1)⟩,
    ⟨(some 6), none, .mv (.t 0)⟩,
    ⟨(some 7), none, .len (.t 6)⟩,
    ⟨(some 8), none, .bin .sub (.t 5) (.t 7)⟩,
    ⟨(some 1), none, .asn (.t 8)⟩]) (
 .seq (
  .seq (
   .reg none [⟨(some 9), none, .mv (.t 1)⟩,
     ⟨(some 10), none, .bin .lss (.t 9) (.c (.int .i64 (0)))⟩]) (
  .cond (.t 10) (
   .seq (
    .reg none [⟨(some 4), none, .asn (.c (.int .i64 (-1)))⟩]) (
   .ret)) (
   .skip))) (
 .seq (
  .reg none [⟨(some 11), none, .mv (.t 1)⟩,
    ⟨(some 4), none, .asn (.t 11)⟩]) (
 .ret))))
def r_laws_szIntS : Nat × List RV := (12, [.t 4])

theorem c_laws_szIntS : cmpS PT PF PA (Try.prog.funcs[74]?) = some (r_laws_szIntS.1, r_laws_szIntS.2, stripK k_laws_szIntS) := by kernel_rfl

theorem h_szIntS (xs : List Int) (left : Int) (h : lL l0 xs) (h2 : 0 ≤ left) (h3 : left < 2 ^ 40) : CallsF Try.prog 74 [.one (.ar false 0 1 (xs.map rI)), aI left] (aI (lft left (wL w0 xs))) := by
  refine Prun c_laws_szIntS (by simp [r_laws_szIntS]) (by simp) ?_
  unfold k_laws_szIntS r_laws_szIntS
  have h := h.1
  rw [wL_w0, lft]
  have hw : IntKind.i64.wrap (left - xs.length) = left - xs.length := wrapI (by omega) (by omega)
  by_cases h : left - xs.length < 0
  · simp [hw, h]
  · simp [hw, h]
end Go.Am
-- Conf_sz1
namespace Go.Am
open Go.Proofs
set_option maxHeartbeats 4000000
-- 51 loop.example/g00485/laws.szConf
def k_laws_szConf : K :=
 .seq (
  .reg none [⟨(some 2), none, .box 83 2 (.t 0)⟩,
    ⟨(some 4), none, .asn (.c (.int .i64 (0)))⟩]) (
 .seq (
  .reg none [⟨(some 5), none, .fad 1 (.t 2)⟩,
    ⟨(some 6), none, .ld 1 false (.t 5)⟩,
    ⟨(some 7), none, .mv (.t 1)⟩,
    ⟨(some 8), none, .call 74 [(.t 6), (.t 7)]⟩,
    ⟨(some 1), none, .asn (.t 8)⟩]) (
 .seq (
  .seq (
   .reg none [⟨(some 9), none, .mv (.t 1)⟩,
     ⟨(some 10), none, .bin .lss (.t 9) (.c (.int .i64 (0)))⟩]) (
  .cond (.t 10) (
   .seq (
    .reg none [⟨(some 4), none, .asn (.c (.int .i64 (-1)))⟩]) (
   .ret)) (
   .skip))) (
 .seq (
  .reg none [⟨(some 11), none, .mv (.t 1)⟩,
    ⟨(some 4), none, .asn (.t 11)⟩]) (
 .ret))))
def r_laws_szConf : Nat × List RV := (12, [.t 4])

theorem c_laws_szConf : cmpS PT PF PA (Try.prog.funcs[51]?) = some (r_laws_szConf.1, r_laws_szConf.2, stripK k_laws_szConf) := by kernel_rfl

theorem h_szConf (a : TConf) (left : Int) (h : lConf a) (h2 : 0 ≤ left) (h3 : left < 2 ^ 40) : CallsF Try.prog 51 [.agg (sConf a), aI left] (aI (lft left (wConf a))) := by
  refine Prun c_laws_szConf (by simp [r_laws_szConf]) (by simp) ?_
  unfold k_laws_szConf r_laws_szConf
  simp only [lConf] at h
  simp only [wConf]
  have hl0 := h
  simp [sConf]
  refine callG_F (h_szIntS a.row (left) hl0 (by omega) (by omega)) (by simp) ?_
  by_cases g0 : left < (wL w0 a.row : Int)
  case pos => simp only [lft_neg g0]; simp; try rw [lft_neg (by omega)]
  simp only [lft_pos (show (wL w0 a.row : Int) ≤ left by omega)]
  have n0 : ¬ left - (wL w0 a.row : Int) < 0 := by omega
  simp [n0]
  try rw [lft_pos (by omega)]
  try omega
end Go.Am
-- Conf_sz
namespace Go.Am
open Go.Proofs
set_option maxHeartbeats 4000000
-- 27 loop.example/g00485/laws.szConfS
def k_laws_szConfS : K :=
 .seq (
  .reg none [⟨(some 4), none, .asn (.c (.int .i64 (0)))⟩]) (
 .seq (
  .reg none [⟨(some 6), none, .mv (.t 1)⟩,
    ⟨(some 7), none, .mv (.t 0)⟩,
    ⟨(some 8), none, .len (.t 7)⟩,
    ⟨(some 9), none, .bin .sub (.t 6) (.t 8)⟩,
    ⟨(some 1), none, .asn (.t 9)⟩]) (
 .seq (
  .seq (
   .reg none [⟨(some 10), none, .mv (.t 1)⟩,
     ⟨(some 11), none, .bin .lss (.t 10) (.c (.int .i64 (0)))⟩]) (
  .cond (.t 11) (
   .seq (
    .reg none [⟨(some 4), none, .asn (.c (.int .i64 (-1)))⟩]) (
   .ret)) (
   .skip))) (
 .seq (
  .seq (
   .reg none [⟨(some 5), none, .asn (.c (.int .i64 (0)))⟩]) (
  .block 0 (
   .loop (some ([0, 1, 5], [0, 1, 5, 1000])) (
    .seq (
     .seq (
      .reg none [⟨(some 12), none, .mv (.t 5)⟩,
        ⟨(some 13), none, .mv (.t 0)⟩,
        ⟨(some 14), none, .len (.t 13)⟩,
        ⟨(some 15), none, .bin .lss (.t 12) (.t 14)⟩]) (
     .cond (.t 15) (
      .skip) (
      .exit 0))) (
    .seq (
     .block 1 (
      .seq (
       .reg none [⟨(some 18), none, .mv (.t 0)⟩,
         ⟨(some 19), none, .mv (.t 5)⟩,
         ⟨(some 20), none, .iad 2 (.t 18) (.t 19)⟩,
         ⟨(some 21), none, .ld 2 true (.t 20)⟩,
         ⟨(some 22), none, .mv (.t 1)⟩,
         ⟨(some 23), none, .call 51 [(.t 21), (.t 22)]⟩,
         ⟨(some 1), none, .asn (.t 23)⟩]) (
      .seq (
       .reg none [⟨(some 24), none, .mv (.t 1)⟩,
         ⟨(some 25), none, .bin .lss (.t 24) (.c (.int .i64 (0)))⟩]) (
      .cond (.t 25) (
       .seq (
        .reg none [⟨(some 4), none, .asn (.c (.int .i64 (-1)))⟩]) (
       .ret)) (
       .skip))))) (
    .reg none [⟨(some 16), none, .mv (.t 5)⟩,
      ⟨(some 17), none, .bin .add (.t 16) (.c (.int .i64 (1)))⟩,
      ⟨(some 5), none, .asn (.t 17)⟩])))))) (
 .seq (
  .reg none [⟨(some 26), none, .mv (.t 1)⟩,
    ⟨(some 4), none, .asn (.t 26)⟩]) (
 .ret)))))
def r_laws_szConfS : Nat × List RV := (27, [.t 4])

theorem c_laws_szConfS : cmpS PT PF PA (Try.prog.funcs[27]?) = some (r_laws_szConfS.1, r_laws_szConfS.2, stripK k_laws_szConfS) := by kernel_rfl

theorem h_szConfS (xs : List TConf) (left : Int) (hl : lL lConf xs) (h2 : 0 ≤ left) (h3 : left < 2 ^ 40) : CallsF Try.prog 27 [.one (.ar false 0 2 (xs.map sConf)), aI left] (aI (lft left (wL wConf xs))) := by
  refine Prun c_laws_szConfS (by simp [r_laws_szConfS]) (by simp) ?_
  unfold k_laws_szConfS r_laws_szConfS
  have hlen := hl.1
  have hlw := wL_len wConf xs
  have w1 : IntKind.i64.wrap (left - xs.length) = left - xs.length := wrapI (by omega) (by omega)
  by_cases h1 : left - (xs.length : Int) < 0
  · rw [lft_neg (by omega)]
    simp [w1, h1]
  simp [w1, h1]
  refine awp_loop (fun n σ => ∃ i : Nat, i ≤ xs.length ∧ n = xs.length - i ∧ (wL wConf (xs.take i) : Int) - i ≤ left - xs.length ∧ σ = ⟨[(0, .one (.ar false 0 2 (xs.map sConf))), (1, aI (left - xs.length - ((wL wConf (xs.take i) : Int) - i))), (5, aI i)], []⟩) (xs.length) ⟨0, by simp [wL]; omega⟩ ?_
  rintro n σ ⟨i, hi, rfl, hle, rfl⟩
  have hge := wL_len wConf (xs.take i)
  rw [List.length_take, Nat.min_eq_left hi] at hge
  by_cases h : i < xs.length
  · have hst := wL_take wConf h
    have hle2 := wL_take_le wConf xs (i + 1)
    have hlen2 := wL_len wConf (xs.drop (i + 1))
    have happ := wL_append wConf (xs.take (i + 1)) (xs.drop (i + 1))
    rw [List.take_append_drop] at happ
    rw [List.length_drop] at hlen2
    simp [h, sConf]
    refine callG_F (h_szConf xs[i] _ (hl.2 i h) (by omega) (by omega)) (by simp) ?_
    generalize hv : left - (xs.length : Int) - ((wL wConf (xs.take i) : Int) - i) = v at *
    by_cases h4 : v < (wConf xs[i] : Int)
    · simp only [lft_neg h4]
      rw [lft_neg (by omega)]
      simp
    · have e : lft v (wConf xs[i]) = v - wConf xs[i] := lft_pos (by omega)
      have n1 : ¬ v - (wConf xs[i] : Int) < 0 := by omega
      simp [e, n1]
      refine ⟨xs.length - (i + 1), by omega, i + 1, by omega, rfl, by omega, ?_⟩
      rw [wrapI (by omega) (by omega)]
      simp; omega
  · have : i = xs.length := by omega
    subst this
    rw [List.take_length] at hle
    rw [lft_pos (by omega)]
    simp
    omega
end Go.Am
-- Line_sz1
namespace Go.Am
open Go.Proofs
set_option maxHeartbeats 4000000
-- 78 loop.example/g00485/laws.szLine
def k_laws_szLine : K :=
 .seq (
  .reg none [⟨(some 2), none, .box 116 3 (.t 0)⟩,
    ⟨(some 4), none, .asn (.c (.int .i64 (0)))⟩]) (
 .seq (
  .reg none [⟨(some 5), none, .fad 0 (.t 2)⟩,
    ⟨(some 6), none, .ld 1 false (.t 5)⟩,
    ⟨(some 7), none, .mv (.t 1)⟩,
    ⟨(some 8), none, .call 27 [(.t 6), (.t 7)]⟩,
    ⟨(some 1), none, .asn (.t 8)⟩]) (
 .seq (
  .seq (
   .reg none [⟨(some 9), none, .mv (.t 1)⟩,
     ⟨(some 10), none, .bin .lss (.t 9) (.c (.int .i64 (0)))⟩]) (
  .cond (.t 10) (
   .seq (
    .reg none [⟨(some 4), none, .asn (.c (.int .i64 (-1)))⟩]) (
   .ret)) (
   .skip))) (
 .seq (
  .reg none [⟨(some 11), none, .fad 2 (.t 2)⟩,
    ⟨(some 12), none, .ld 1 false (.t 11)⟩,
    ⟨(some 13), none, .mv (.t 1)⟩,
    ⟨(some 14), none, .call 27 [(.t 12), (.t 13)]⟩,
    ⟨(some 1), none, .asn (.t 14)⟩]) (
 .seq (
  .seq (
   .reg none [⟨(some 15), none, .mv (.t 1)⟩,
     ⟨(some 16), none, .bin .lss (.t 15) (.c (.int .i64 (0)))⟩]) (
  .cond (.t 16) (
   .seq (
    .reg none [⟨(some 4), none, .asn (.c (.int .i64 (-1)))⟩]) (
   .ret)) (
   .skip))) (
 .seq (
  .reg none [⟨(some 17), none, .mv (.t 1)⟩,
    ⟨(some 4), none, .asn (.t 17)⟩]) (
 .ret))))))
def r_laws_szLine : Nat × List RV := (18, [.t 4])

theorem c_laws_szLine : cmpS PT PF PA (Try.prog.funcs[78]?) = some (r_laws_szLine.1, r_laws_szLine.2, stripK k_laws_szLine) := by kernel_rfl

theorem h_szLine (a : TLine) (left : Int) (h : lLine a) (h2 : 0 ≤ left) (h3 : left < 2 ^ 40) : CallsF Try.prog 78 [.agg (sLine a), aI left] (aI (lft left (wLine a))) := by
  refine Prun c_laws_szLine (by simp [r_laws_szLine]) (by simp) ?_
  unfold k_laws_szLine r_laws_szLine
  simp only [lLine] at h
  simp only [wLine]
  obtain ⟨hl0, hl1⟩ := h
  simp [sLine]
  refine callG_F (h_szConfS a.frm (left) hl0 (by omega) (by omega)) (by simp) ?_
  by_cases g0 : left < (wL wConf a.frm : Int)
  case pos => simp only [lft_neg g0]; simp; try rw [lft_neg (by omega)]
  simp only [lft_pos (show (wL wConf a.frm : Int) ≤ left by omega)]
  have n0 : ¬ left - (wL wConf a.frm : Int) < 0 := by omega
  simp [n0]
  refine callG_F (h_szConfS a.too (left - (wL wConf a.frm : Int)) hl1 (by omega) (by omega)) (by simp) ?_
  by_cases g1 : left - (wL wConf a.frm : Int) < (wL wConf a.too : Int)
  case pos => simp only [lft_neg g1]; simp; try rw [lft_neg (by omega)]
  simp only [lft_pos (show (wL wConf a.too : Int) ≤ left - (wL wConf a.frm : Int) by omega)]
  have n1 : ¬ left - (wL wConf a.frm : Int) - (wL wConf a.too : Int) < 0 := by omega
  simp [n1]
  try rw [lft_pos (by omega)]
  try omega
end Go.Am
-- Line_sz
namespace Go.Am
open Go.Proofs
set_option maxHeartbeats 4000000
-- 56 loop.example/g00485/laws.szLineS
def k_laws_szLineS : K :=
 .seq (
  .reg none [⟨(some 4), none, .asn (.c (.int .i64 (0)))⟩]) (
 .seq (
  .reg none [⟨(some 6), none, .mv (.t 1)⟩,
    ⟨(some 7), none, .mv (.t 0)⟩,
    ⟨(some 8), none, .len (.t 7)⟩,
    ⟨(some 9), none, .bin .sub (.t 6) (.t 8)⟩,
    ⟨(some 1), none, .asn (.t 9)⟩]) (
 .seq (
  .seq (
   .reg none [⟨(some 10), none, .mv (.t 1)⟩,
     ⟨(some 11), none, .bin .lss (.t 10) (.c (.int .i64 (0)))⟩]) (
  .cond (.t 11) (
   .seq (
    .reg none [⟨(some 4), none, .asn (.c (.int .i64 (-1)))⟩]) (
   .ret)) (
   .skip))) (
 .seq (
  .seq (
   .reg none [⟨(some 5), none, .asn (.c (.int .i64 (0)))⟩]) (
  .block 0 (
   .loop (some ([0, 1, 5], [0, 1, 5, 1000])) (
    .seq (
     .seq (
      .reg none [⟨(some 12), none, .mv (.t 5)⟩,
        ⟨(some 13), none, .mv (.t 0)⟩,
        ⟨(some 14), none, .len (.t 13)⟩,
        ⟨(some 15), none, .bin .lss (.t 12) (.t 14)⟩]) (
     .cond (.t 15) (
      .skip) (
      .exit 0))) (
    .seq (
     .block 1 (
      .seq (
       .reg none [⟨(some 18), none, .mv (.t 0)⟩,
         ⟨(some 19), none, .mv (.t 5)⟩,
         ⟨(some 20), none, .iad 3 (.t 18) (.t 19)⟩,
         ⟨(some 21), none, .ld 3 true (.t 20)⟩,
         ⟨(some 22), none, .mv (.t 1)⟩,
         ⟨(some 23), none, .call 78 [(.t 21), (.t 22)]⟩,
         ⟨(some 1), none, .asn (.t 23)⟩]) (
      .seq (
       .reg none [⟨(some 24), none, .mv (.t 1)⟩,
         ⟨(some 25), none, .bin .lss (.t 24) (.c (.int .i64 (0)))⟩]) (
      .cond (.t 25) (
       .seq (
        .reg none [⟨(some 4), none, .asn (.c (.int .i64 (-1)))⟩]) (
       .ret)) (
       .skip))))) (
    .reg none [⟨(some 16), none, .mv (.t 5)⟩,
      ⟨(some 17), none, .bin .add (.t 16) (.c (.int .i64 (1)))⟩,
      ⟨(some 5), none, .asn (.t 17)⟩])))))) (
 .seq (
  .reg none [⟨(some 26), none, .mv (.t 1)⟩,
    ⟨(some 4), none, .asn (.t 26)⟩]) (
 .ret)))))
def r_laws_szLineS : Nat × List RV := (27, [.t 4])

theorem c_laws_szLineS : cmpS PT PF PA (Try.prog.funcs[56]?) = some (r_laws_szLineS.1, r_laws_szLineS.2, stripK k_laws_szLineS) := by kernel_rfl

theorem h_szLineS (xs : List TLine) (left : Int) (hl : lL lLine xs) (h2 : 0 ≤ left) (h3 : left < 2 ^ 40) : CallsF Try.prog 56 [.one (.ar false 0 3 (xs.map sLine)), aI left] (aI (lft left (wL wLine xs))) := by
  refine Prun c_laws_szLineS (by simp [r_laws_szLineS]) (by simp) ?_
  unfold k_laws_szLineS r_laws_szLineS
  have hlen := hl.1
  have hlw := wL_len wLine xs
  have w1 : IntKind.i64.wrap (left - xs.length) = left - xs.length := wrapI (by omega) (by omega)
  by_cases h1 : left - (xs.length : Int) < 0
  · rw [lft_neg (by omega)]
    simp [w1, h1]
  simp [w1, h1]
  refine awp_loop (fun n σ => ∃ i : Nat, i ≤ xs.length ∧ n = xs.length - i ∧ (wL wLine (xs.take i) : Int) - i ≤ left - xs.length ∧ σ = ⟨[(0, .one (.ar false 0 3 (xs.map sLine))), (1, aI (left - xs.length - ((wL wLine (xs.take i) : Int) - i))), (5, aI i)], []⟩) (xs.length) ⟨0, by simp [wL]; omega⟩ ?_
  rintro n σ ⟨i, hi, rfl, hle, rfl⟩
  have hge := wL_len wLine (xs.take i)
  rw [List.length_take, Nat.min_eq_left hi] at hge
  by_cases h : i < xs.length
  · have hst := wL_take wLine h
    have hle2 := wL_take_le wLine xs (i + 1)
    have hlen2 := wL_len wLine (xs.drop (i + 1))
    have happ := wL_append wLine (xs.take (i + 1)) (xs.drop (i + 1))
    rw [List.take_append_drop] at happ
    rw [List.length_drop] at hlen2
    simp [h, sLine]
    refine callG_F (h_szLine xs[i] _ (hl.2 i h) (by omega) (by omega)) (by simp) ?_
    generalize hv : left - (xs.length : Int) - ((wL wLine (xs.take i) : Int) - i) = v at *
    by_cases h4 : v < (wLine xs[i] : Int)
    · simp only [lft_neg h4]
      rw [lft_neg (by omega)]
      simp
    · have e : lft v (wLine xs[i]) = v - wLine xs[i] := lft_pos (by omega)
      have n1 : ¬ v - (wLine xs[i] : Int) < 0 := by omega
      simp [e, n1]
      refine ⟨xs.length - (i + 1), by omega, i + 1, by omega, rfl, by omega, ?_⟩
      rw [wrapI (by omega) (by omega)]
      simp; omega
  · have : i = xs.length := by omega
    subst this
    rw [List.take_length] at hle
    rw [lft_pos (by omega)]
    simp
    omega
end Go.Am
-- Store_sz1
namespace Go.Am
open Go.Proofs
set_option maxHeartbeats 4000000
-- 33 loop.example/g00485/laws.szStore
def k_laws_szStore : K :=
 .seq (
  .reg none [⟨(some 2), none, .box 53 2 (.t 0)⟩,
    ⟨(some 4), none, .asn (.c (.int .i64 (0)))⟩]) (
 .seq (
  .reg none [⟨(some 5), none, .fad 1 (.t 2)⟩,
    ⟨(some 6), none, .ld 1 false (.t 5)⟩,
    ⟨(some 7), none, .mv (.t 1)⟩,
    ⟨(some 8), none, .call 56 [(.t 6), (.t 7)]⟩,
    ⟨(some 1), none, .asn (.t 8)⟩]) (
 .seq (
  .seq (
   .reg none [⟨(some 9), none, .mv (.t 1)⟩,
     ⟨(some 10), none, .bin .lss (.t 9) (.c (.int .i64 (0)))⟩]) (
  .cond (.t 10) (
   .seq (
    .reg none [⟨(some 4), none, .asn (.c (.int .i64 (-1)))⟩]) (
   .ret)) (
   .skip))) (
 .seq (
  .reg none [⟨(some 11), none, .mv (.t 1)⟩,
    ⟨(some 4), none, .asn (.t 11)⟩]) (
 .ret))))
def r_laws_szStore : Nat × List RV := (12, [.t 4])

theorem c_laws_szStore : cmpS PT PF PA (Try.prog.funcs[33]?) = some (r_laws_szStore.1, r_laws_szStore.2, stripK k_laws_szStore) := by kernel_rfl

theorem h_szStore (a : TStore) (left : Int) (h : lStore a) (h2 : 0 ≤ left) (h3 : left < 2 ^ 40) : CallsF Try.prog 33 [.agg (sStore a), aI left] (aI (lft left (wStore a))) := by
  refine Prun c_laws_szStore (by simp [r_laws_szStore]) (by simp) ?_
  unfold k_laws_szStore r_laws_szStore
  simp only [lStore] at h
  simp only [wStore]
  have hl0 := h
  simp [sStore]
  refine callG_F (h_szLineS a.lines (left) hl0 (by omega) (by omega)) (by simp) ?_
  by_cases g0 : left < (wL wLine a.lines : Int)
  case pos => simp only [lft_neg g0]; simp; try rw [lft_neg (by omega)]
  simp only [lft_pos (show (wL wLine a.lines : Int) ≤ left by omega)]
  have n0 : ¬ left - (wL wLine a.lines : Int) < 0 := by omega
  simp [n0]
  try rw [lft_pos (by omega)]
  try omega
end Go.Am
-- Conf_to1
namespace Go.Am
open Go.Proofs
set_option maxHeartbeats 4000000
-- 53 loop.example/g00485/laws.toConf
def k_laws_toConf : K :=
 .seq (
  .reg none [⟨(some 1), none, .box 83 2 (.t 0)⟩,
    ⟨(some 2), none, .alc 85 2 [(.int .i64 (0)), (.ar true 3 1 [])]⟩]) (
 .seq (
  .reg none [⟨(some 3), none, .alc 85 2 [(.int .i64 (0)), (.ar true 3 1 [])]⟩]) (
 .seq (
  .reg none [⟨(some 4), none, .fad 0 (.t 1)⟩,
    ⟨(some 5), none, .ld 1 false (.t 4)⟩,
    ⟨(some 6), none, .fad 0 (.t 3)⟩,
    ⟨none, none, .st 1 false (.t 6) (.t 5)⟩]) (
 .seq (
  .reg none [⟨(some 7), none, .fad 1 (.t 1)⟩,
    ⟨(some 8), none, .ld 1 false (.t 7)⟩,
    ⟨(some 9), none, .call 14 [(.t 8)]⟩,
    ⟨(some 10), none, .fad 1 (.t 3)⟩,
    ⟨none, none, .st 1 false (.t 10) (.t 9)⟩]) (
 .seq (
  .reg none [⟨(some 11), none, .ld 2 true (.t 3)⟩,
    ⟨none, none, .st 2 false (.t 2) (.t 11)⟩]) (
 .ret)))))
def r_laws_toConf : Nat × List RV := (12, [.c 2 2 true])

theorem c_laws_toConf : cmpS PT PF PA (Try.prog.funcs[53]?) = some (r_laws_toConf.1, r_laws_toConf.2, stripK k_laws_toConf) := by kernel_rfl

theorem h_toConf (a : TConf) (ha : wConf a < 2 ^ 31) : CallsF Try.prog 53 [.agg (sConf a)] (.agg (rConf a)) := by
  refine Prun c_laws_toConf (by simp [r_laws_toConf]) (by simp) ?_
  unfold k_laws_toConf r_laws_toConf
  simp only [wConf] at ha
  simp [sConf]
  refine callG_F (h_toIntS a.row (by omega)) (by simp) ?_
  simp [rConf]
end Go.Am
-- Conf_to
namespace Go.Am
open Go.Proofs
set_option maxHeartbeats 4000000
-- 29 loop.example/g00485/laws.toConfS
def k_laws_toConfS : K :=
 .seq (
  .reg none [⟨(some 2), none, .asn (.c (.ar true 85 2 []))⟩]) (
 .seq (
  .reg none [⟨(some 5), none, .mv (.t 0)⟩,
    ⟨(some 6), none, .len (.t 5)⟩,
    ⟨(some 7), none, .mks 85 2 32 [(.int .i64 (0)), (.ar true 3 1 [])] (.t 6) (.t 6)⟩,
    ⟨(some 3), none, .asn (.t 7)⟩]) (
 .seq (
  .seq (
   .reg none [⟨(some 4), none, .asn (.c (.int .i64 (0)))⟩]) (
  .block 0 (
   .loop (some ([0, 3, 4], [0, 3, 4, 1000])) (
    .seq (
     .seq (
      .reg none [⟨(some 8), none, .mv (.t 4)⟩,
        ⟨(some 9), none, .mv (.t 0)⟩,
        ⟨(some 10), none, .len (.t 9)⟩,
        ⟨(some 11), none, .bin .lss (.t 8) (.t 10)⟩]) (
     .cond (.t 11) (
      .skip) (
      .exit 0))) (
    .seq (
     .block 1 (
      .reg none [⟨(some 14), none, .mv (.t 3)⟩,
        ⟨(some 15), none, .mv (.t 4)⟩,
        ⟨(some 16), none, .mv (.t 0)⟩,
        ⟨(some 17), none, .mv (.t 4)⟩,
        ⟨(some 18), none, .iad 2 (.t 16) (.t 17)⟩,
        ⟨(some 19), none, .ld 2 true (.t 18)⟩,
        ⟨(some 20), none, .call 53 [(.t 19)]⟩,
        ⟨(some 21), none, .iad 2 (.t 14) (.t 15)⟩,
        ⟨none, none, .st 2 false (.t 21) (.t 20)⟩])) (
    .reg none [⟨(some 12), none, .mv (.t 4)⟩,
      ⟨(some 13), none, .bin .add (.t 12) (.c (.int .i64 (1)))⟩,
      ⟨(some 4), none, .asn (.t 13)⟩])))))) (
 .seq (
  .reg none [⟨(some 22), none, .mv (.t 3)⟩,
    ⟨(some 2), none, .asn (.t 22)⟩]) (
 .ret))))
def r_laws_toConfS : Nat × List RV := (23, [.t 2])

theorem c_laws_toConfS : cmpS PT PF PA (Try.prog.funcs[29]?) = some (r_laws_toConfS.1, r_laws_toConfS.2, stripK k_laws_toConfS) := by kernel_rfl

theorem h_toConfS (xs : List TConf) (hx : wL wConf xs < 2 ^ 31) : CallsF Try.prog 29 [.one (.ar false 0 2 (xs.map sConf))] (.one (.ar true 85 2 (xs.map rConf))) := by
  refine Prun c_laws_toConfS (by simp [r_laws_toConfS]) (by simp) ?_
  unfold k_laws_toConfS r_laws_toConfS
  have hlen := wL_len wConf xs
  have hc : ((xs.length : Int) ≤ 4294967296) := by omega
  simp [hc]
  refine awp_loop (fun n σ => ∃ i : Nat, i ≤ xs.length ∧ n = xs.length - i ∧ σ = ⟨[(0, .one (.ar false 0 2 (xs.map sConf))), (3, .one (.vw 85 2 3 [] 0 xs.length)), (4, aI i)], [(3, ⟨85, 2, part rConf zConf xs i⟩)]⟩) (xs.length) ⟨0, by simp [part_zero, zConf]⟩ ?_
  rintro n σ ⟨i, hi, rfl, rfl⟩
  by_cases h : i < xs.length
  · have hw := wL_get wConf xs i h
    have := part_set (r := rConf) (z := zConf) h
    simp [h, sConf]
    refine callG_F (h_toConf xs[i] (by omega)) (by simp) ?_
    simp [h, part_get h, rConf, zConf]
    refine ⟨xs.length - (i + 1), by omega, i + 1, by omega, rfl, ?_⟩
    rw [wrapI (by omega) (by omega)]
    simp only [rConf, zConf] at this
    simp [rConf, zConf, this]
  · have : i = xs.length := by omega
    subst this
    simp [part_all]
end Go.Am
-- Line_to1
namespace Go.Am
open Go.Proofs
set_option maxHeartbeats 4000000
-- 80 loop.example/g00485/laws.toLine
def k_laws_toLine : K :=
 .seq (
  .reg none [⟨(some 1), none, .box 116 3 (.t 0)⟩,
    ⟨(some 2), none, .alc 90 3 [(.ar true 85 2 []), (.int .i64 (0)), (.ar true 85 2 [])]⟩]) (
 .seq (
  .reg none [⟨(some 3), none, .alc 90 3 [(.ar true 85 2 []), (.int .i64 (0)), (.ar true 85 2 [])]⟩]) (
 .seq (
  .reg none [⟨(some 4), none, .fad 0 (.t 1)⟩,
    ⟨(some 5), none, .ld 1 false (.t 4)⟩,
    ⟨(some 6), none, .call 29 [(.t 5)]⟩,
    ⟨(some 7), none, .fad 0 (.t 3)⟩,
    ⟨none, none, .st 1 false (.t 7) (.t 6)⟩]) (
 .seq (
  .reg none [⟨(some 8), none, .fad 1 (.t 1)⟩,
    ⟨(some 9), none, .ld 1 false (.t 8)⟩,
    ⟨(some 10), none, .fad 1 (.t 3)⟩,
    ⟨none, none, .st 1 false (.t 10) (.t 9)⟩]) (
 .seq (
  .reg none [⟨(some 11), none, .fad 2 (.t 1)⟩,
    ⟨(some 12), none, .ld 1 false (.t 11)⟩,
    ⟨(some 13), none, .call 29 [(.t 12)]⟩,
    ⟨(some 14), none, .fad 2 (.t 3)⟩,
    ⟨none, none, .st 1 false (.t 14) (.t 13)⟩]) (
 .seq (
  .reg none [⟨(some 15), none, .ld 3 true (.t 3)⟩,
    ⟨none, none, .st 3 false (.t 2) (.t 15)⟩]) (
 .ret))))))
def r_laws_toLine : Nat × List RV := (16, [.c 2 3 true])

theorem c_laws_toLine : cmpS PT PF PA (Try.prog.funcs[80]?) = some (r_laws_toLine.1, r_laws_toLine.2, stripK k_laws_toLine) := by kernel_rfl

theorem h_toLine (a : TLine) (ha : wLine a < 2 ^ 31) : CallsF Try.prog 80 [.agg (sLine a)] (.agg (rLine a)) := by
  refine Prun c_laws_toLine (by simp [r_laws_toLine]) (by simp) ?_
  unfold k_laws_toLine r_laws_toLine
  simp only [wLine] at ha
  simp [sLine]
  refine callG_F (h_toConfS a.frm (by omega)) (by simp) ?_
  simp
  refine callG_F (h_toConfS a.too (by omega)) (by simp) ?_
  simp [rLine]
end Go.Am
-- Line_to
namespace Go.Am
open Go.Proofs
set_option maxHeartbeats 4000000
-- 58 loop.example/g00485/laws.toLineS
def k_laws_toLineS : K :=
 .seq (
  .reg none [⟨(some 2), none, .asn (.c (.ar true 90 3 []))⟩]) (
 .seq (
  .reg none [⟨(some 5), none, .mv (.t 0)⟩,
    ⟨(some 6), none, .len (.t 5)⟩,
    ⟨(some 7), none, .mks 90 3 56 [(.ar true 85 2 []), (.int .i64 (0)), (.ar true 85 2 [])] (.t 6) (.t 6)⟩,
    ⟨(some 3), none, .asn (.t 7)⟩]) (
 .seq (
  .seq (
   .reg none [⟨(some 4), none, .asn (.c (.int .i64 (0)))⟩]) (
  .block 0 (
   .loop (some ([0, 3, 4], [0, 3, 4, 1000])) (
    .seq (
     .seq (
      .reg none [⟨(some 8), none, .mv (.t 4)⟩,
        ⟨(some 9), none, .mv (.t 0)⟩,
        ⟨(some 10), none, .len (.t 9)⟩,
        ⟨(some 11), none, .bin .lss (.t 8) (.t 10)⟩]) (
     .cond (.t 11) (
      .skip) (
      .exit 0))) (
    .seq (
     .block 1 (
      .reg none [⟨(some 14), none, .mv (.t 3)⟩,
        ⟨(some 15), none, .mv (.t 4)⟩,
        ⟨(some 16), none, .mv (.t 0)⟩,
        ⟨(some 17), none, .mv (.t 4)⟩,
        ⟨(some 18), none, .iad 3 (.t 16) (.t 17)⟩,
        ⟨(some 19), none, .ld 3 true (.t 18)⟩,
        ⟨(some 20), none, .call 80 [(.t 19)]⟩,
        ⟨(some 21), none, .iad 3 (.t 14) (.t 15)⟩,
        ⟨none, none, .st 3 false (.t 21) (.t 20)⟩])) (
    .reg none [⟨(some 12), none, .mv (.t 4)⟩,
      ⟨(some 13), none, .bin .add (.t 12) (.c (.int .i64 (1)))⟩,
      ⟨(some 4), none, .asn (.t 13)⟩])))))) (
 .seq (
  .reg none [⟨(some 22), none, .mv (.t 3)⟩,
    ⟨(some 2), none, .asn (.t 22)⟩]) (
 .ret))))
def r_laws_toLineS : Nat × List RV := (23, [.t 2])

theorem c_laws_toLineS : cmpS PT PF PA (Try.prog.funcs[58]?) = some (r_laws_toLineS.1, r_laws_toLineS.2, stripK k_laws_toLineS) := by kernel_rfl

theorem h_toLineS (xs : List TLine) (hx : wL wLine xs < 2 ^ 31) : CallsF Try.prog 58 [.one (.ar false 0 3 (xs.map sLine))] (.one (.ar true 90 3 (xs.map rLine))) := by
  refine Prun c_laws_toLineS (by simp [r_laws_toLineS]) (by simp) ?_
  unfold k_laws_toLineS r_laws_toLineS
  have hlen := wL_len wLine xs
  have hc : ((xs.length : Int) ≤ 4294967296) := by omega
  simp [hc]
  refine awp_loop (fun n σ => ∃ i : Nat, i ≤ xs.length ∧ n = xs.length - i ∧ σ = ⟨[(0, .one (.ar false 0 3 (xs.map sLine))), (3, .one (.vw 90 3 3 [] 0 xs.length)), (4, aI i)], [(3, ⟨90, 3, part rLine zLine xs i⟩)]⟩) (xs.length) ⟨0, by simp [part_zero, zLine]⟩ ?_
  rintro n σ ⟨i, hi, rfl, rfl⟩
  by_cases h : i < xs.length
  · have hw := wL_get wLine xs i h
    have := part_set (r := rLine) (z := zLine) h
    simp [h, sLine]
    refine callG_F (h_toLine xs[i] (by omega)) (by simp) ?_
    simp [h, part_get h, rLine, zLine]
    refine ⟨xs.length - (i + 1), by omega, i + 1, by omega, rfl, ?_⟩
    rw [wrapI (by omega) (by omega)]
    simp only [rLine, zLine] at this
    simp [rLine, zLine, this]
  · have : i = xs.length := by omega
    subst this
    simp [part_all]
end Go.Am
-- Store_to1
namespace Go.Am
open Go.Proofs
set_option maxHeartbeats 4000000
-- 35 loop.example/g00485/laws.toStore
def k_laws_toStore : K :=
 .seq (
  .reg none [⟨(some 1), none, .box 53 2 (.t 0)⟩,
    ⟨(some 2), none, .alc 38 2 [(.int .i64 (0)), (.ar true 90 3 [])]⟩]) (
 .seq (
  .reg none [⟨(some 3), none, .alc 38 2 [(.int .i64 (0)), (.ar true 90 3 [])]⟩]) (
 .seq (
  .reg none [⟨(some 4), none, .fad 0 (.t 1)⟩,
    ⟨(some 5), none, .ld 1 false (.t 4)⟩,
    ⟨(some 6), none, .fad 0 (.t 3)⟩,
    ⟨none, none, .st 1 false (.t 6) (.t 5)⟩]) (
 .seq (
  .reg none [⟨(some 7), none, .fad 1 (.t 1)⟩,
    ⟨(some 8), none, .ld 1 false (.t 7)⟩,
    ⟨(some 9), none, .call 58 [(.t 8)]⟩,
    ⟨(some 10), none, .fad 1 (.t 3)⟩,
    ⟨none, none, .st 1 false (.t 10) (.t 9)⟩]) (
 .seq (
  .reg none [⟨(some 11), none, .ld 2 true (.t 3)⟩,
    ⟨none, none, .st 2 false (.t 2) (.t 11)⟩]) (
 .ret)))))
def r_laws_toStore : Nat × List RV := (12, [.c 2 2 true])

theorem c_laws_toStore : cmpS PT PF PA (Try.prog.funcs[35]?) = some (r_laws_toStore.1, r_laws_toStore.2, stripK k_laws_toStore) := by kernel_rfl

theorem h_toStore (a : TStore) (ha : wStore a < 2 ^ 31) : CallsF Try.prog 35 [.agg (sStore a)] (.agg (rStore a)) := by
  refine Prun c_laws_toStore (by simp [r_laws_toStore]) (by simp) ?_
  unfold k_laws_toStore r_laws_toStore
  simp only [wStore] at ha
  simp [sStore]
  refine callG_F (h_toLineS a.lines (by omega)) (by simp) ?_
  simp [rStore]
end Go.Am
-- L_StoreSame
namespace Go.Am
open Go.Proofs
set_option maxHeartbeats 4000000
-- 7 loop.example/g00485/laws.FnExactStoreSame
def k_laws_FnExactStoreSame : K :=
 .seq (
  .reg none [⟨(some 2), none, .box 53 2 (.t 0)⟩,
    ⟨(some 3), none, .box 53 2 (.t 1)⟩,
    ⟨(some 4), none, .asn (.c (.bool false))⟩]) (
 .seq (
  .reg none [⟨(some 5), none, .asn (.c (.int .i64 (1048576)))⟩]) (
 .seq (
  .reg none [⟨(some 10), none, .ld 2 true (.t 2)⟩,
    ⟨(some 11), none, .mv (.t 5)⟩,
    ⟨(some 12), none, .call 33 [(.t 10), (.t 11)]⟩,
    ⟨(some 5), none, .asn (.t 12)⟩]) (
 .seq (
  .seq (
   .reg none [⟨(some 13), none, .mv (.t 5)⟩,
     ⟨(some 14), none, .bin .lss (.t 13) (.c (.int .i64 (0)))⟩]) (
  .cond (.t 14) (
   .seq (
    .reg none [⟨(some 4), none, .asn (.c (.bool true))⟩]) (
   .ret)) (
   .skip))) (
 .seq (
  .reg none [⟨(some 15), none, .ld 2 true (.t 3)⟩,
    ⟨(some 16), none, .mv (.t 5)⟩,
    ⟨(some 17), none, .call 33 [(.t 15), (.t 16)]⟩,
    ⟨(some 5), none, .asn (.t 17)⟩]) (
 .seq (
  .seq (
   .reg none [⟨(some 18), none, .mv (.t 5)⟩,
     ⟨(some 19), none, .bin .lss (.t 18) (.c (.int .i64 (0)))⟩]) (
  .cond (.t 19) (
   .seq (
    .reg none [⟨(some 4), none, .asn (.c (.bool true))⟩]) (
   .ret)) (
   .skip))) (
 .seq (
  .grp none 3 [0, 2] [1] [⟨(some 20), none, .ld 2 true (.t 2)⟩,
    ⟨(some 21), none, .call 35 [(.t 20)]⟩,
    ⟨(some 22), none, .ld 2 true (.t 3)⟩,
    ⟨(some 23), none, .call 35 [(.t 22)]⟩,
    ⟨(some 24), none, .call 34 [(.t 21), (.t 23)]⟩,
    ⟨(some 6), none, .asn (.t 24)⟩]) (
 .seq (
  .reg none [⟨(some 25), none, .ld 2 true (.t 2)⟩,
    ⟨(some 26), none, .call 35 [(.t 25)]⟩,
    ⟨(some 7), none, .alc 38 2 [(.int .i64 (0)), (.ar true 90 3 [])]⟩,
    ⟨none, none, .st 2 false (.t 7) (.t 26)⟩]) (
 .seq (
  .reg none [⟨(some 27), none, .ld 2 true (.t 3)⟩,
    ⟨(some 28), none, .call 35 [(.t 27)]⟩,
    ⟨(some 8), none, .alc 38 2 [(.int .i64 (0)), (.ar true 90 3 [])]⟩,
    ⟨none, none, .st 2 false (.t 8) (.t 28)⟩]) (
 .seq (
  .reg none [⟨(some 29), none, .ld 2 true (.t 7)⟩,
    ⟨(some 30), none, .ld 2 true (.t 8)⟩,
    ⟨(some 31), none, .call 36 [(.t 29), (.t 30)]⟩,
    ⟨(some 9), none, .asn (.t 31)⟩]) (
 .seq (
  .seq (
   .reg none [⟨(some 32), none, .mv (.t 9)⟩,
     ⟨(some 33), none, .mv (.t 6)⟩,
     ⟨(some 34), none, .beq true (.t 32) (.t 33)⟩]) (
  .cond (.t 34) (
   .seq (
    .reg none [⟨(some 4), none, .asn (.c (.bool false))⟩]) (
   .ret)) (
   .skip))) (
 .seq (
  .seq (
   .grp none 3 [0, 1] [2] [⟨(some 35), none, .ld 2 true (.t 7)⟩,
     ⟨(some 36), none, .ld 2 true (.t 2)⟩,
     ⟨(some 37), none, .call 35 [(.t 36)]⟩,
     ⟨(some 38), none, .call 24 [(.t 35), (.t 37)]⟩,
     ⟨(some 39), none, .not (.t 38)⟩]) (
  .cond (.t 39) (
   .seq (
    .reg none [⟨(some 4), none, .asn (.c (.bool false))⟩]) (
   .ret)) (
   .skip))) (
 .seq (
  .seq (
   .grp none 3 [0, 1] [2] [⟨(some 40), none, .ld 2 true (.t 8)⟩,
     ⟨(some 41), none, .ld 2 true (.t 3)⟩,
     ⟨(some 42), none, .call 35 [(.t 41)]⟩,
     ⟨(some 43), none, .call 24 [(.t 40), (.t 42)]⟩,
     ⟨(some 44), none, .not (.t 43)⟩]) (
  .cond (.t 44) (
   .seq (
    .reg none [⟨(some 4), none, .asn (.c (.bool false))⟩]) (
   .ret)) (
   .skip))) (
 .seq (
  .reg none [⟨(some 4), none, .asn (.c (.bool true))⟩]) (
 .ret))))))))))))))
def r_laws_FnExactStoreSame : Nat × List RV := (45, [.t 4])

theorem c_laws_FnExactStoreSame : cmpS PT PF PA (Try.prog.funcs[7]?) = some (r_laws_FnExactStoreSame.1, r_laws_FnExactStoreSame.2, stripK k_laws_FnExactStoreSame) := by kernel_rfl

theorem h_law_StoreSame (a : TStore) (hla : lStore a) (b : TStore) (hlb : lStore b) : CallsF Try.prog 7 [.agg (sStore a), .agg (sStore b)] (aB true) := by
  refine Prun c_laws_FnExactStoreSame (by simp [r_laws_FnExactStoreSame]) (by simp) ?_
  unfold k_laws_FnExactStoreSame r_laws_FnExactStoreSame
  have hsz1 := h_szStore a 1048576 hla (by omega) (by omega)
  simp [sStore]
  refine callG_F hsz1 (by simp) ?_
  by_cases g1 : (1048576 : Int) < (wStore a : Int)
  · simp [lft_neg g1]
  have e1 : lft 1048576 (wStore a) = 1048576 - wStore a := lft_pos (by omega)
  have n1 : ¬ (1048576 : Int) - wStore a < 0 := by omega
  simp [e1, n1]
  have hsz2 := h_szStore b (1048576 - wStore a) hlb (by omega) (by omega)
  refine callG_F hsz2 (by simp) ?_
  by_cases g2 : (1048576 - wStore a : Int) < (wStore b : Int)
  · simp [lft_neg g2]
  have e2 : lft (1048576 - wStore a) (wStore b) = 1048576 - wStore a - wStore b := lft_pos (by omega)
  have n2 : ¬ (1048576 : Int) - wStore a - wStore b < 0 := by omega
  have hta := h_toStore a (by omega)
  have htb := h_toStore b (by omega)
  have hea := h_eqStore a (by omega)
  have heb := h_eqStore b (by omega)
  have hs := h_spec_StoreSame a b (by omega)
  have hi := h_impl_StoreSame a b (by omega)
  simp [e2, n2]
  refine gcal_F hta (by simp) ?_
  try simp
  refine callG_F htb (by simp) ?_
  simp [rStore]
  refine callG_F hs (by simp) ?_
  simp
  refine callG_F hta (by simp) ?_
  simp [rStore]
  refine callG_F htb (by simp) ?_
  simp [rStore]
  refine callG_F hi (by simp) ?_
  simp
  refine gcal_F hta (by simp) ?_
  try simp [rStore]
  refine callG_F hea (by simp) ?_
  simp
  refine gcal_F htb (by simp) ?_
  try simp [rStore]
  refine callG_F heb (by simp) ?_
  simp
end Go.Am
-- Conf_sh
namespace Go.Am
open Go.Proofs
set_option maxHeartbeats 4000000
def shConf : List Sh := [.i, .l 1 [.i]]
theorem of_Conf (x : List C) (h : inShs shConf x) : ∃ a : TConf, x = sConf a ∧ lConf a := by
  simp only [shConf, inShs] at h
  obtain ⟨c0, r0, rfl, h0, c1, r1, rfl, h1, rfl⟩ := h
  simp only [inSh] at h0
  obtain ⟨n0, rfl⟩ := h0
  obtain ⟨n1, rfl, g1⟩ := of_sl of_int c1 h1
  refine ⟨⟨n0, n1⟩, rfl, ?_⟩
  simp only [lConf]
  exact g1
end Go.Am
-- Line_sh
namespace Go.Am
open Go.Proofs
set_option maxHeartbeats 4000000
def shLine : List Sh := [.l 2 shConf, .i, .l 2 shConf]
theorem of_Line (x : List C) (h : inShs shLine x) : ∃ a : TLine, x = sLine a ∧ lLine a := by
  simp only [shLine, inShs] at h
  obtain ⟨c0, r0, rfl, h0, c1, r1, rfl, h1, c2, r2, rfl, h2, rfl⟩ := h
  obtain ⟨n0, rfl, g0⟩ := of_sl of_Conf c0 h0
  simp only [inSh] at h1
  obtain ⟨n1, rfl⟩ := h1
  obtain ⟨n2, rfl, g2⟩ := of_sl of_Conf c2 h2
  refine ⟨⟨n0, n1, n2⟩, rfl, ?_⟩
  simp only [lLine]
  exact ⟨g0, g2⟩
end Go.Am
-- Store_sh
namespace Go.Am
open Go.Proofs
set_option maxHeartbeats 4000000
def shStore : List Sh := [.i, .l 3 shLine]
theorem of_Store (x : List C) (h : inShs shStore x) : ∃ a : TStore, x = sStore a ∧ lStore a := by
  simp only [shStore, inShs] at h
  obtain ⟨c0, r0, rfl, h0, c1, r1, rfl, h1, rfl⟩ := h
  simp only [inSh] at h0
  obtain ⟨n0, rfl⟩ := h0
  obtain ⟨n1, rfl, g1⟩ := of_sl of_Line c1 h1
  refine ⟨⟨n0, n1⟩, rfl, ?_⟩
  simp only [lStore]
  exact g1
end Go.Am
-- B_FnExactStoreSame
namespace Go.Am
open Go.Proofs
set_option maxHeartbeats 4000000
open Go.ChangeShapes Go.WideShapes Go.ChangeAt Go.RowKit Go.Proofs.Ythkjmplgdceajaa
theorem own_FnExactStoreSame : ownKnob Try.prog.godebug = none := by kernel_rfl
theorem laidOut_FnExactStoreSame : laidOutB Try.prog = true := by kernel_rfl
set_option maxRecDepth 100000 in
theorem lifted_FnExactStoreSame (os : Os) (started : os.Started) (H : Type) (enc : TypeId × Value → H) :
    ReturnsInHanded {} Try.checked os 7 .any (Rows.fnExactStoreSameSpec.pre6 enc Try.prog Try.f7 Rows.fnExactStoreSameRow.domain false) (Rows.fnExactStoreSameSpec.post enc Try.prog Try.f7 false true false false) := by
  refine returnsInHanded_of_change (C := Try.checked) own_FnExactStoreSame started (by kernel_rfl) Try.func7
    (ChangeSpec.witness6 (enc := enc) (C := Try.checked) false ⟨#[], #[.agg #[.int .i64 0, .slice none 0 0], .agg #[.int .i64 0, .slice none 0 0]], []⟩ 8 (by kernel_rfl) (by kernel_rfl) (by kernel_rfl) (by kernel_rfl)) ?_
  intro W base args ds gs before hval0 hW hcnd _
  have hval : ∀ (j : Nat) t v, Try.f7.params[j]? = some t → args[j]? = some v → Value.okWide Try.prog W .any base t v := hval0
  have hW' := hW
  obtain ⟨p, q, hA0, hV, rfl, hfz, hnd⟩ := hW
  have hA : DataW.TrodAll enc Try.prog W 0 (fun _ => true) true Try.f7.params.toList args.toList ds p := hA0
  rw [Try.params7] at hA hval
  obtain ⟨v0, v1, d0, d1, p0, p1, rfl, rfl, rfl, h0, h1⟩ := trodAll_two hA
  obtain ⟨rfl, rfl⟩ := trodVars_none hV
  have hV0 : ∀ (W' : World) (sp : Nat → Bool), DataW.TrodVars enc Try.checked.prog W' sp Rows.fnExactStoreSameSpec.vars ([] : List (DataW H)) [] := fun _ _ => by first | rfl | trivial | exact ⟨rfl, rfl⟩ | exact ⟨_, rfl, rfl⟩
  have hk0 := h0
  have hs0 : shT Try.prog 12 53 = some shStore := by kernel_rfl
  obtain ⟨row0, hc0, hr0⟩ := arg_st (lc := fun _ => none) Try.underlying53 hs0 (hval 0 53 v0 rfl rfl) h0
  obtain ⟨x0, rfl, hl0⟩ := of_Store row0 hc0
  have hk1 := h1
  have hs1 : shT Try.prog 12 53 = some shStore := by kernel_rfl
  obtain ⟨row1, hc1, hr1⟩ := arg_st (lc := fun _ => none) Try.underlying53 hs1 (hval 1 53 v1 rfl rfl) h1
  obtain ⟨x1, rfl, hl1⟩ := of_Store row1 hc1
  clear hA0 hval0
  simp only [List.append_nil] at hW'
  refine (below_of (h_law_StoreSame x0 hl0 x1 hl1) (fun _ _ _ _ h => h.1) W [v0, v1] (by simp [sStore, aI, A.ref, C.ref, refCs]) ⟨_, _, fz, fz, rfl, (add_fz _).symm, hr0, ⟨_, _, fz, fz, rfl, (add_fz _).symm, hr1, ⟨rfl, rfl⟩⟩⟩ rfl).mono fun e W' ⟨he, hw⟩ => ?_
  subst he
  exact ⟨_, rfl, [d0, d1], [], _, [], _, [], by simpa using hW', trodAll_mk1 (shut_bool Try.underlying4 true), trodAll_mk2 (Below.trod laidOut_FnExactStoreSame (by kernel_rfl) (of_decide_eq_true (by kernel_rfl)) hk0 hw (fun x hx => by have := hW'.lt x (by simp [hx]); simpa using this)) (Below.trod laidOut_FnExactStoreSame (by kernel_rfl) (of_decide_eq_true (by kernel_rfl)) hk1 hw (fun x hx => by have := hW'.lt x (by simp [hx]); simpa using this)), hV0 _ _, hw.frame _, fun h => by cases h⟩
theorem holds_FnExactStoreSame : Rows.FnExactStoreSameSaid :=
  OpenClaim.holds_of_wide 7 Try.f7 rfl rfl rfl rfl rfl rfl rfl ⟨rfl, rfl, rfl, rfl, rfl⟩ rfl rfl rfl rfl rfl (by kernel_rfl) Try.func7 (by kernel_rfl)
    (of_decide_eq_true (by kernel_rfl)) (by unfold Func.isWrapper; first | (rw [if_pos (by decide +kernel)]; kernel_rfl) | (rw [if_neg (by decide +kernel)]; exact ⟨rfl, rfl⟩))
    (fun os started H enc _ => lifted_FnExactStoreSame os started H enc)
#print axioms holds_FnExactStoreSame
end Go.Am
namespace Go.Proofs.Ythkjmplgdceajaa
theorem fnExactStoreSame_holds : Rows.FnExactStoreSameSaid := Go.Am.holds_FnExactStoreSame
end Go.Proofs.Ythkjmplgdceajaa
