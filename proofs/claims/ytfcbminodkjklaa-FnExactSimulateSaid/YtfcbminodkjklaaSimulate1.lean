/- Text 1 of 3 for FnExactSimulate: codes of the functions that it reaches and their contracts over trees. No condition. -/
import Derived.Test.YtfcbminodkjklaaAm6
import Derived.Test.YtfcbminodkjklaaProg
set_option linter.unusedVariables false
set_option linter.unusedSimpArgs false
namespace Go.Am
open Go.Proofs
noncomputable def PT : List (Nat × TI) := mkT Try.prog (List.range 267)
noncomputable def PF : List Nat := mkF Try.prog (List.range 238)
def PA : An := ⟨[], false, true, [(13, 0), (23, 0), (24, 0), (25, 0), (32, 0), (50, 0), (56, 1), (62, 0), (91, 0), (98, 0), (99, 0), (100, 0), (118, 0), (140, 0), (154, 0)], false, [(70, 1), (139, 1), (153, 1), (162, 1), (168, 3), (181, 1), (189, 3), (198, 3)], [(80, [5])], [(16, [0, 2]), (35, [0, 1]), (56, [3]), (110, [0])], false, false, [77]⟩
def PB : An := ⟨[], false, true, [(13, 0), (23, 0), (24, 0), (25, 0), (32, 0), (50, 0), (56, 1), (62, 0), (91, 0), (98, 0), (99, 0), (100, 0), (118, 0), (140, 0), (154, 0)], true, [(70, 1), (139, 1), (153, 1), (162, 1), (168, 3), (181, 1), (189, 3), (198, 3)], [(80, [5])], [(16, [0, 2]), (35, [0, 1]), (56, [3]), (110, [0])], false, false, [77]⟩
def PC : An := ⟨[], false, true, [(13, 0), (23, 0), (24, 0), (25, 0), (32, 0), (50, 0), (56, 1), (62, 0), (91, 0), (98, 0), (99, 0), (100, 0), (118, 0), (140, 0), (154, 0)], false, [(70, 1), (139, 1), (153, 1), (162, 1), (168, 3), (181, 1), (189, 3), (198, 3)], [(80, [5])], [(16, [0, 2]), (35, [0, 1]), (56, [3]), (110, [0])], true, false, [77]⟩
def PD : An := ⟨[], false, true, [(13, 0), (23, 0), (24, 0), (25, 0), (32, 0), (50, 0), (56, 1), (62, 0), (91, 0), (98, 0), (99, 0), (100, 0), (118, 0), (140, 0), (154, 0)], false, [(70, 1), (139, 1), (153, 1), (162, 1), (168, 3), (181, 1), (189, 3), (198, 3)], [(80, [5])], [(16, [0, 2]), (35, [0, 1]), (56, [3]), (110, [0])], false, true, [77]⟩
theorem Pmo : PA.mo = true → Try.prog.follows .mixedOrders = true := fun _ => by kernel_rfl
theorem Prun {f : FuncId} {k : K} {r : Nat × List RV} {args : List A} {v : A} (hc : cmpS PT PF PA (Try.prog.funcs[f]?) = some (r.1, r.2, stripK k)) (hn : args.length ≤ r.1) (hn2 : args.length ≤ 1000)
    (h : awp Try.prog k (FPost' r.2 fun a H => H = [] ∧ a = v) (entry args [])) : CallsF Try.prog f args v := callF_run (mkT_ok _ _) (mkF_ok _ _) PA Pmo hc hn hn2 h
theorem PrunA {f : FuncId} {k : K} {r : Nat × List RV} {args : List A} {H : List (Nat × Obj)} {R : A → List (Nat × Obj) → Prop} (hc : cmpS PT PF PA (Try.prog.funcs[f]?) = some (r.1, r.2, stripK k)) (hn : args.length ≤ r.1) (hn2 : args.length ≤ 1000)
    (h : awp Try.prog k (FPost' r.2 R) (entry args H)) : CallsA Try.prog f args H R := calls_runS (mkT_ok _ _) (mkF_ok _ _) PA Pmo hc hn hn2 h
theorem PfnOk (f : Nat) (h : PF.contains f = true) : FnOk Try.prog f := fnOk_of (mkF_ok _ _) h
theorem PmoB : PB.mo = true → Try.prog.follows .mixedOrders = true := fun _ => by kernel_rfl
theorem PrunB {f : FuncId} {k : K} {r : Nat × List RV} {args : List A} {H : List (Nat × Obj)} {R : A → List (Nat × Obj) → Prop} (hc : cmpS PT PF PB (Try.prog.funcs[f]?) = some (r.1, r.2, stripK k)) (hn : args.length ≤ r.1) (hn2 : args.length ≤ 1000)
    (h : awp Try.prog k (FPost' r.2 R) (entry args H)) : CallsA Try.prog f args H R := calls_runS (mkT_ok _ _) (mkF_ok _ _) PB PmoB hc hn hn2 h
theorem PrunBF {f : FuncId} {k : K} {r : Nat × List RV} {args : List A} {v : A} (hc : cmpS PT PF PB (Try.prog.funcs[f]?) = some (r.1, r.2, stripK k)) (hn : args.length ≤ r.1) (hn2 : args.length ≤ 1000)
    (h : awp Try.prog k (FPost' r.2 fun a H => H = [] ∧ a = v) (entry args [])) : CallsF Try.prog f args v := callF_run (mkT_ok _ _) (mkF_ok _ _) PB PmoB hc hn hn2 h
theorem PmoC : PC.mo = true → Try.prog.follows .mixedOrders = true := fun _ => by kernel_rfl
theorem PrunC {f : FuncId} {k : K} {r : Nat × List RV} {args : List A} {H : List (Nat × Obj)} {R : A → List (Nat × Obj) → Prop} (hc : cmpS PT PF PC (Try.prog.funcs[f]?) = some (r.1, r.2, stripK k)) (hn : args.length ≤ r.1) (hn2 : args.length ≤ 1000)
    (h : awp Try.prog k (FPost' r.2 R) (entry args H)) : CallsA Try.prog f args H R := calls_runS (mkT_ok _ _) (mkF_ok _ _) PC PmoC hc hn hn2 h
theorem PrunCF {f : FuncId} {k : K} {r : Nat × List RV} {args : List A} {v : A} (hc : cmpS PT PF PC (Try.prog.funcs[f]?) = some (r.1, r.2, stripK k)) (hn : args.length ≤ r.1) (hn2 : args.length ≤ 1000)
    (h : awp Try.prog k (FPost' r.2 fun a H => H = [] ∧ a = v) (entry args [])) : CallsF Try.prog f args v := callF_run (mkT_ok _ _) (mkF_ok _ _) PC PmoC hc hn hn2 h
theorem PmoD : PD.mo = true → Try.prog.follows .mixedOrders = true := fun _ => by kernel_rfl
theorem PrunD {f : FuncId} {k : K} {r : Nat × List RV} {args : List A} {H : List (Nat × Obj)} {R : A → List (Nat × Obj) → Prop} (hc : cmpS PT PF PD (Try.prog.funcs[f]?) = some (r.1, r.2, stripK k)) (hn : args.length ≤ r.1) (hn2 : args.length ≤ 1000)
    (h : awp Try.prog k (FPost' r.2 R) (entry args H)) : CallsA Try.prog f args H R := calls_runS (mkT_ok _ _) (mkF_ok _ _) PD PmoD hc hn hn2 h
theorem PrunDF {f : FuncId} {k : K} {r : Nat × List RV} {args : List A} {v : A} (hc : cmpS PT PF PD (Try.prog.funcs[f]?) = some (r.1, r.2, stripK k)) (hn : args.length ≤ r.1) (hn2 : args.length ≤ 1000)
    (h : awp Try.prog k (FPost' r.2 fun a H => H = [] ∧ a = v) (entry args [])) : CallsF Try.prog f args v := callF_run (mkT_ok _ _) (mkF_ok _ _) PD PmoD hc hn hn2 h
end Go.Am
-- cmpi
namespace Go.Am
open Go.Proofs
set_option maxHeartbeats 4000000
set_option maxRecDepth 100000
attribute [-simp] BitVec.toNat_or BitVec.toNat_and BitVec.toNat_ofInt
def ordI (a b : Int) : Int := if a < b then -1 else if b < a then 1 else 0
def ordL : List Int → List Int → Int
  | [], [] => 0
  | [], _ :: _ => -1
  | _ :: _, [] => 1
  | a :: u, b :: v => if ordI a b = 0 then ordL u v else ordI a b
def orI : List Int → Int
  | [] => 0
  | a :: u => if a = 0 then orI u else a
theorem ordI_eq {a b : Int} : ordI a b = 0 ↔ a = b := by unfold ordI; split <;> (try split) <;> omega
theorem ordL_eq : ∀ {a b : List Int}, ordL a b = 0 ↔ a = b
  | [], [] => by simp [ordL]
  | [], _ :: _ => by simp [ordL]
  | _ :: _, [] => by simp [ordL]
  | a :: u, b :: v => by
    simp only [ordL]
    by_cases h : ordI a b = 0
    · rw [if_pos h, ordL_eq]
      have := ordI_eq.1 h
      subst this
      simp
    · rw [if_neg h]
      constructor
      · intro h2; exact absurd h2 h
      · intro h2
        injection h2 with h3 h4
        exact absurd (ordI_eq.2 h3) h
theorem ordL_step {a b : List Int} {i : Nat} (ha : i < a.length) (hb : i < b.length) : ordL (a.drop i) (b.drop i) = if ordI a[i] b[i] = 0 then ordL (a.drop (i + 1)) (b.drop (i + 1)) else ordI a[i] b[i] := by
  rw [List.drop_eq_getElem_cons ha, List.drop_eq_getElem_cons hb, ordL]
theorem ordL_end {a b : List Int} {i : Nat} (h : a.length ≤ i ∨ b.length ≤ i) (ha : i ≤ a.length) (hb : i ≤ b.length) : ordL (a.drop i) (b.drop i) = if a.length < b.length then -1 else if b.length < a.length then 1 else 0 := by
  rcases Nat.lt_trichotomy a.length b.length with hl | hl | hl
  · have : i = a.length := by omega
    rw [if_pos hl, List.drop_eq_nil_of_le (by omega : a.length ≤ i), List.drop_eq_getElem_cons (by omega : i < b.length)]
    rfl
  · rw [if_neg (by omega), if_neg (by omega), List.drop_eq_nil_of_le (by omega : a.length ≤ i), List.drop_eq_nil_of_le (by omega : b.length ≤ i)]
    rfl
  · rw [if_neg (by omega), if_pos hl, List.drop_eq_nil_of_le (by omega : b.length ≤ i), List.drop_eq_getElem_cons (by omega : i < a.length)]
    rfl
end Go.Am
-- ListCmp
namespace Go.Am
open Go.Proofs
set_option maxHeartbeats 4000000
set_option maxRecDepth 100000
attribute [-simp] BitVec.toNat_or BitVec.toNat_and BitVec.toNat_ofInt
def bitI (b : Bool) : Int := if b then 1 else 0
-- 141 loop.example/g00485/spec.l1Bit
def k_spec_l1Bit : K :=
 .seq (
  .reg none [⟨(some 2), none, .asn (.c (.int .i64 (0)))⟩]) (
 .seq (
  .seq (
   .reg none [⟨(some 3), none, .mv (.t 0)⟩]) (
  .cond (.t 3) (
   .seq (
    .reg none [⟨(some 2), none, .asn (.c (.int .i64 (1)))⟩]) (
   .ret)) (
   .skip))) (
 .seq (
  .reg none [⟨(some 2), none, .asn (.c (.int .i64 (0)))⟩]) (
 .ret)))
def r_spec_l1Bit : Nat × List RV := (4, [.t 2])

theorem c_spec_l1Bit : cmpS PT PF PA (Try.prog.funcs[141]?) = some (r_spec_l1Bit.1, r_spec_l1Bit.2, stripK k_spec_l1Bit) := by kernel_rfl

theorem h_spec_l1Bit (b : Bool) : CallsF Try.prog 141 [aB b] (aI (bitI b)) := by
  refine Prun c_spec_l1Bit (by simp [r_spec_l1Bit]) (by simp) ?_
  unfold k_spec_l1Bit r_spec_l1Bit
  cases b <;> simp [bitI]
-- 163 loop.example/g00485/spec.ListCmp
def k_spec_ListCmp : K :=
 .seq (
  .reg none [⟨(some 4), none, .asn (.c (.int .i64 (0)))⟩]) (
 .seq (
  .seq (
   .reg none [⟨(some 5), none, .asn (.c (.int .i64 (0)))⟩]) (
  .block 0 (
   .loop (some ([0, 1, 5], [0, 1, 5, 1000])) (
    .seq (
     .seq (
      .reg none [⟨(some 6), none, .mv (.t 5)⟩,
        ⟨(some 7), none, .mv (.t 0)⟩,
        ⟨(some 8), none, .len (.t 7)⟩,
        ⟨(some 9), none, .bin .lss (.t 6) (.t 8)⟩,
        ⟨(some 10), none, .mv (.t 9)⟩,
        ⟨(some 11), (some (10, true)), .mv (.t 5)⟩,
        ⟨(some 12), (some (10, true)), .mv (.t 1)⟩,
        ⟨(some 13), (some (10, true)), .len (.t 12)⟩,
        ⟨(some 14), (some (10, true)), .bin .lss (.t 11) (.t 13)⟩,
        ⟨(some 15), none, .pick (.t 10) (.t 14) (.c (.bool false))⟩]) (
     .cond (.t 15) (
      .skip) (
      .exit 0))) (
    .seq (
     .block 1 (
      .seq (
       .seq (
        .drw none 9 [⟨(some 18), none, .mv (.t 0)⟩,
          ⟨(some 19), none, .mv (.t 5)⟩,
          ⟨(some 20), none, .iad 1 (.t 18) (.t 19)⟩,
          ⟨(some 21), none, .ld 1 false (.t 20)⟩,
          ⟨(some 22), none, .mv (.t 1)⟩,
          ⟨(some 23), none, .mv (.t 5)⟩,
          ⟨(some 24), none, .iad 1 (.t 22) (.t 23)⟩,
          ⟨(some 25), none, .ld 1 false (.t 24)⟩,
          ⟨(some 26), none, .bin .lss (.t 21) (.t 25)⟩]) (
       .cond (.t 26) (
        .seq (
         .reg none [⟨(some 4), none, .asn (.c (.int .i64 (-1)))⟩]) (
        .ret)) (
        .skip))) (
      .seq (
       .drw none 9 [⟨(some 27), none, .mv (.t 0)⟩,
         ⟨(some 28), none, .mv (.t 5)⟩,
         ⟨(some 29), none, .iad 1 (.t 27) (.t 28)⟩,
         ⟨(some 30), none, .ld 1 false (.t 29)⟩,
         ⟨(some 31), none, .mv (.t 1)⟩,
         ⟨(some 32), none, .mv (.t 5)⟩,
         ⟨(some 33), none, .iad 1 (.t 31) (.t 32)⟩,
         ⟨(some 34), none, .ld 1 false (.t 33)⟩,
         ⟨(some 35), none, .bin .gtr (.t 30) (.t 34)⟩]) (
      .cond (.t 35) (
       .seq (
        .reg none [⟨(some 4), none, .asn (.c (.int .i64 (1)))⟩]) (
       .ret)) (
       .skip))))) (
    .reg none [⟨(some 16), none, .mv (.t 5)⟩,
      ⟨(some 17), none, .bin .add (.t 16) (.c (.int .i64 (1)))⟩,
      ⟨(some 5), none, .asn (.t 17)⟩])))))) (
 .seq (
  .seq (
   .reg none [⟨(some 36), none, .mv (.t 0)⟩,
     ⟨(some 37), none, .len (.t 36)⟩,
     ⟨(some 38), none, .mv (.t 1)⟩,
     ⟨(some 39), none, .len (.t 38)⟩,
     ⟨(some 40), none, .bin .lss (.t 37) (.t 39)⟩]) (
  .cond (.t 40) (
   .seq (
    .reg none [⟨(some 4), none, .asn (.c (.int .i64 (-1)))⟩]) (
   .ret)) (
   .skip))) (
 .seq (
  .reg none [⟨(some 41), none, .mv (.t 0)⟩,
    ⟨(some 42), none, .len (.t 41)⟩,
    ⟨(some 43), none, .mv (.t 1)⟩,
    ⟨(some 44), none, .len (.t 43)⟩,
    ⟨(some 45), none, .bin .gtr (.t 42) (.t 44)⟩,
    ⟨(some 46), none, .call 141 [(.t 45)]⟩,
    ⟨(some 4), none, .asn (.t 46)⟩]) (
 .ret))))
def r_spec_ListCmp : Nat × List RV := (47, [.t 4])

theorem c_spec_ListCmp : cmpS PT PF PA (Try.prog.funcs[163]?) = some (r_spec_ListCmp.1, r_spec_ListCmp.2, stripK k_spec_ListCmp) := by kernel_rfl

theorem h_spec_ListCmp (xs ys : List Int) (hx : xs.length < 2 ^ 40) : CallsF Try.prog 163 [.one (.ar false 0 1 (xs.map rI)), .one (.ar false 0 1 (ys.map rI))] (aI (ordL xs ys)) := by
  refine Prun c_spec_ListCmp (by simp [r_spec_ListCmp]) (by simp) ?_
  unfold k_spec_ListCmp r_spec_ListCmp
  simp
  refine awp_loop (fun n σ => ∃ i : Nat, i ≤ xs.length ∧ i ≤ ys.length ∧ n = xs.length - i ∧ ordL xs ys = ordL (xs.drop i) (ys.drop i) ∧ σ = ⟨[(0, .one (.ar false 0 1 (xs.map rI))), (1, .one (.ar false 0 1 (ys.map rI))), (5, aI i)], []⟩) (xs.length) ⟨0, by simp⟩ ?_
  rintro n σ ⟨i, hi, hi2, rfl, ht, rfl⟩
  have hend : ∀ h : xs.length ≤ i ∨ ys.length ≤ i, ordL xs ys = if xs.length < ys.length then -1 else bitI (decide (ys.length < xs.length)) := fun h => by
    rw [ht, ordL_end h hi hi2]; simp [bitI]
  by_cases h : i < xs.length
  · by_cases h2 : i < ys.length
    · rw [ordL_step h h2] at ht
      by_cases c1 : xs[i] < ys[i]
      · have : ordI xs[i] ys[i] = -1 := by unfold ordI; rw [if_pos c1]
        rw [this, if_neg (by omega)] at ht
        simp [h, h2, c1, ht]
      · by_cases c2 : ys[i] < xs[i]
        · have : ordI xs[i] ys[i] = 1 := by unfold ordI; rw [if_neg c1, if_pos c2]
          rw [this, if_neg (by omega)] at ht
          simp [h, h2, c1, c2, ht]
        · have : ordI xs[i] ys[i] = 0 := by unfold ordI; rw [if_neg c1, if_neg c2]
          rw [this, if_pos rfl] at ht
          simp [h, h2, c1, c2]
          refine ⟨xs.length - (i + 1), by omega, i + 1, by omega, by omega, rfl, ht, ?_⟩
          rw [wrapI (by omega) (by omega)]
          simp
    · have he := hend (.inr (by omega))
      by_cases c1 : xs.length < ys.length
      · omega
      · have c3 : ¬ (xs.length : Int) < ys.length := by omega
        rw [if_neg c1] at he
        simp [h, h2, c1]
        refine callG_F (h_spec_l1Bit _) (by simp) ?_
        simp [he]
  · have he := hend (.inl (by omega))
    by_cases c1 : xs.length < ys.length
    · rw [if_pos c1] at he
      simp [h, c1, he]
    · rw [if_neg c1] at he
      simp [h, c1]
      refine callG_F (h_spec_l1Bit _) (by simp) ?_
      simp [he]
end Go.Am
-- Compare
namespace Go.Am
open Go.Proofs
set_option maxHeartbeats 4000000
set_option maxRecDepth 100000
attribute [-simp] BitVec.toNat_or BitVec.toNat_and BitVec.toNat_ofInt
-- 215 cmp.isNaN[int]
def k_cmp_isNaN_int : K :=
 .seq (
  .reg none [⟨(some 2), none, .asn (.c (.bool false))⟩]) (
 .seq (
  .reg none [⟨(some 3), none, .mv (.t 0)⟩,
    ⟨(some 4), none, .mv (.t 0)⟩,
    ⟨(some 5), none, .bin .neq (.t 3) (.t 4)⟩,
    ⟨(some 2), none, .asn (.t 5)⟩]) (
 .ret))
def r_cmp_isNaN_int : Nat × List RV := (6, [.t 2])

theorem c_cmp_isNaN_int : cmpS PT PF PA (Try.prog.funcs[215]?) = some (r_cmp_isNaN_int.1, r_cmp_isNaN_int.2, stripK k_cmp_isNaN_int) := by kernel_rfl

theorem h_isNaN (a : Int) : CallsF Try.prog 215 [aI a] (aB false) := by
  refine Prun c_cmp_isNaN_int (by simp [r_cmp_isNaN_int]) (by simp) ?_
  unfold k_cmp_isNaN_int r_cmp_isNaN_int
  simp
-- 206 cmp.Compare[int]
def k_cmp_Compare_int : K :=
 .seq (
  .reg none [⟨(some 4), none, .asn (.c (.int .i64 (0)))⟩]) (
 .seq (
  .reg none [⟨(some 7), none, .mv (.t 0)⟩,
    ⟨(some 8), none, .call 215 [(.t 7)]⟩,
    ⟨(some 5), none, .asn (.t 8)⟩]) (
 .seq (
  .reg none [⟨(some 9), none, .mv (.t 1)⟩,
    ⟨(some 10), none, .call 215 [(.t 9)]⟩,
    ⟨(some 6), none, .asn (.t 10)⟩]) (
 .seq (
  .seq (
   .reg none [⟨(some 11), none, .mv (.t 5)⟩]) (
  .cond (.t 11) (
   .seq (
    .seq (
     .reg none [⟨(some 12), none, .mv (.t 6)⟩]) (
    .cond (.t 12) (
     .seq (
      .reg none [⟨(some 4), none, .asn (.c (.int .i64 (0)))⟩]) (
     .ret)) (
     .skip))) (
   .seq (
    .reg none [⟨(some 4), none, .asn (.c (.int .i64 (-1)))⟩]) (
   .ret))) (
   .skip))) (
 .seq (
  .seq (
   .reg none [⟨(some 13), none, .mv (.t 6)⟩]) (
  .cond (.t 13) (
   .seq (
    .reg none [⟨(some 4), none, .asn (.c (.int .i64 (1)))⟩]) (
   .ret)) (
   .skip))) (
 .seq (
  .seq (
   .reg none [⟨(some 14), none, .mv (.t 0)⟩,
     ⟨(some 15), none, .mv (.t 1)⟩,
     ⟨(some 16), none, .bin .lss (.t 14) (.t 15)⟩]) (
  .cond (.t 16) (
   .seq (
    .reg none [⟨(some 4), none, .asn (.c (.int .i64 (-1)))⟩]) (
   .ret)) (
   .skip))) (
 .seq (
  .seq (
   .reg none [⟨(some 17), none, .mv (.t 0)⟩,
     ⟨(some 18), none, .mv (.t 1)⟩,
     ⟨(some 19), none, .bin .gtr (.t 17) (.t 18)⟩]) (
  .cond (.t 19) (
   .seq (
    .reg none [⟨(some 4), none, .asn (.c (.int .i64 (1)))⟩]) (
   .ret)) (
   .skip))) (
 .seq (
  .reg none [⟨(some 4), none, .asn (.c (.int .i64 (0)))⟩]) (
 .ret))))))))
def r_cmp_Compare_int : Nat × List RV := (20, [.t 4])

theorem c_cmp_Compare_int : cmpS PT PF PA (Try.prog.funcs[206]?) = some (r_cmp_Compare_int.1, r_cmp_Compare_int.2, stripK k_cmp_Compare_int) := by kernel_rfl

theorem h_cmpCompare (a b : Int) : CallsF Try.prog 206 [aI a, aI b] (aI (ordI a b)) := by
  refine Prun c_cmp_Compare_int (by simp [r_cmp_Compare_int]) (by simp) ?_
  unfold k_cmp_Compare_int r_cmp_Compare_int
  simp
  refine callG_F (h_isNaN a) (by simp) ?_
  simp
  refine callG_F (h_isNaN b) (by simp) ?_
  by_cases c1 : a < b
  · simp [c1, ordI]
  · by_cases c2 : b < a
    · simp [c1, c2, ordI]
    · simp [c1, c2, ordI]
-- 205 cmp.Or[int]
def k_cmp_Or_int : K :=
 .seq (
  .reg none [⟨(some 2), none, .asn (.c (.int .i64 (0)))⟩]) (
 .seq (
  .reg none [⟨(some 3), none, .asn (.c (.int .i64 (0)))⟩]) (
 .seq (
  .seq (
   .reg none [⟨(some 6), none, .mv (.t 0)⟩,
     ⟨(some 7), none, .len (.t 6)⟩,
     ⟨(some 8), none, .mv (.c (.int .i64 (0)))⟩]) (
  .block 0 (
   .loop (some ([3, 6, 7, 8], [0, 3, 1000])) (
    .seq (
     .reg none [⟨(some 9), none, .bin .lss (.t 8) (.t 7)⟩]) (
    .seq (
     .cond (.t 9) (
      .skip) (
      .exit 0)) (
    .seq (
     .block 1 (
      .seq (
       .reg none [⟨(some 10), none, .iad 1 (.t 6) (.t 8)⟩,
         ⟨(some 11), none, .ld 1 false (.t 10)⟩,
         ⟨(some 5), none, .asn (.t 11)⟩]) (
      .seq (
       .reg none [⟨(some 12), none, .mv (.t 5)⟩,
         ⟨(some 13), none, .mv (.t 3)⟩,
         ⟨(some 14), none, .bin .neq (.t 12) (.t 13)⟩]) (
      .cond (.t 14) (
       .seq (
        .reg none [⟨(some 15), none, .mv (.t 5)⟩,
          ⟨(some 2), none, .asn (.t 15)⟩]) (
       .ret)) (
       .skip))))) (
    .reg none [⟨(some 16), none, .bin .add (.t 8) (.c (.int .i64 (1)))⟩,
      ⟨(some 8), none, .mv (.t 16)⟩]))))))) (
 .seq (
  .reg none [⟨(some 17), none, .mv (.t 3)⟩,
    ⟨(some 2), none, .asn (.t 17)⟩]) (
 .ret))))
def r_cmp_Or_int : Nat × List RV := (18, [.t 2])

theorem c_cmp_Or_int : cmpS PT PF PA (Try.prog.funcs[205]?) = some (r_cmp_Or_int.1, r_cmp_Or_int.2, stripK k_cmp_Or_int) := by kernel_rfl

theorem h_cmpOr (xs : List Int) (hx : xs.length < 2 ^ 40) : CallsF Try.prog 205 [.one (.ar false 0 1 (xs.map rI))] (aI (orI xs)) := by
  refine Prun c_cmp_Or_int (by simp [r_cmp_Or_int]) (by simp) ?_
  unfold k_cmp_Or_int r_cmp_Or_int
  simp
  refine awp_loop (fun n σ => ∃ i : Nat, i ≤ xs.length ∧ n = xs.length - i ∧ orI xs = orI (xs.drop i) ∧ σ = ⟨[(3, aI 0), (6, .one (.ar false 0 1 (xs.map rI))), (7, aI xs.length), (8, aI i)], []⟩) (xs.length) ⟨0, by simp⟩ ?_
  rintro n σ ⟨i, hi, rfl, ht, rfl⟩
  by_cases h : i < xs.length
  · rw [List.drop_eq_getElem_cons h, orI] at ht
    by_cases c1 : xs[i] = 0
    · rw [if_pos c1] at ht
      simp [h, c1]
      refine ⟨xs.length - (i + 1), by omega, i + 1, by omega, rfl, ht, ?_⟩
      rw [wrapI (by omega) (by omega)]
      simp
    · rw [if_neg c1] at ht
      simp [h, c1, ht]
  · have : i = xs.length := by omega
    subst this
    rw [List.drop_length, orI] at ht
    simp [ht]
-- 207 slices.Compare[[]int,int]
def k_slices_Compare_int_int : K :=
 .seq (
  .reg none [⟨(some 4), none, .asn (.c (.int .i64 (0)))⟩]) (
 .seq (
  .seq (
   .reg none [⟨(some 9), none, .mv (.t 0)⟩,
     ⟨(some 10), none, .len (.t 9)⟩,
     ⟨(some 11), none, .mv (.c (.int .i64 (0)))⟩]) (
  .block 0 (
   .loop (some ([0, 1, 9, 10, 11], [0, 1, 1000])) (
    .seq (
     .reg none [⟨(some 12), none, .bin .lss (.t 11) (.t 10)⟩]) (
    .seq (
     .cond (.t 12) (
      .skip) (
      .exit 0)) (
    .seq (
     .block 1 (
      .seq (
       .reg none [⟨(some 13), none, .mv (.t 11)⟩,
         ⟨(some 14), none, .iad 1 (.t 9) (.t 11)⟩,
         ⟨(some 15), none, .ld 1 false (.t 14)⟩,
         ⟨(some 5), none, .asn (.t 13)⟩,
         ⟨(some 6), none, .asn (.t 15)⟩]) (
      .seq (
       .seq (
        .reg none [⟨(some 16), none, .mv (.t 5)⟩,
          ⟨(some 17), none, .mv (.t 1)⟩,
          ⟨(some 18), none, .len (.t 17)⟩,
          ⟨(some 19), none, .bin .geq (.t 16) (.t 18)⟩]) (
       .cond (.t 19) (
        .seq (
         .reg none [⟨(some 4), none, .asn (.c (.int .i64 (1)))⟩]) (
        .ret)) (
        .skip))) (
      .seq (
       .reg none [⟨(some 20), none, .mv (.t 1)⟩,
         ⟨(some 21), none, .mv (.t 5)⟩,
         ⟨(some 22), none, .iad 1 (.t 20) (.t 21)⟩,
         ⟨(some 23), none, .ld 1 false (.t 22)⟩,
         ⟨(some 7), none, .asn (.t 23)⟩]) (
      .seq (
       .reg none [⟨(some 24), none, .mv (.t 6)⟩,
         ⟨(some 25), none, .mv (.t 7)⟩,
         ⟨(some 26), none, .call 206 [(.t 24), (.t 25)]⟩,
         ⟨(some 8), none, .asn (.t 26)⟩]) (
      .seq (
       .reg none [⟨(some 27), none, .mv (.t 8)⟩,
         ⟨(some 28), none, .bin .neq (.t 27) (.c (.int .i64 (0)))⟩]) (
      .cond (.t 28) (
       .seq (
        .reg none [⟨(some 29), none, .mv (.t 8)⟩,
          ⟨(some 4), none, .asn (.t 29)⟩]) (
       .ret)) (
       .skip)))))))) (
    .reg none [⟨(some 30), none, .bin .add (.t 11) (.c (.int .i64 (1)))⟩,
      ⟨(some 11), none, .mv (.t 30)⟩]))))))) (
 .seq (
  .seq (
   .reg none [⟨(some 31), none, .mv (.t 0)⟩,
     ⟨(some 32), none, .len (.t 31)⟩,
     ⟨(some 33), none, .mv (.t 1)⟩,
     ⟨(some 34), none, .len (.t 33)⟩,
     ⟨(some 35), none, .bin .lss (.t 32) (.t 34)⟩]) (
  .cond (.t 35) (
   .seq (
    .reg none [⟨(some 4), none, .asn (.c (.int .i64 (-1)))⟩]) (
   .ret)) (
   .skip))) (
 .seq (
  .reg none [⟨(some 4), none, .asn (.c (.int .i64 (0)))⟩]) (
 .ret))))
def r_slices_Compare_int_int : Nat × List RV := (36, [.t 4])

theorem c_slices_Compare_int_int : cmpS PT PF PA (Try.prog.funcs[207]?) = some (r_slices_Compare_int_int.1, r_slices_Compare_int_int.2, stripK k_slices_Compare_int_int) := by kernel_rfl

theorem h_slicesCompare (xs ys : List Int) (hx : xs.length < 2 ^ 40) : CallsF Try.prog 207 [.one (.ar false 0 1 (xs.map rI)), .one (.ar false 0 1 (ys.map rI))] (aI (ordL xs ys)) := by
  refine Prun c_slices_Compare_int_int (by simp [r_slices_Compare_int_int]) (by simp) ?_
  unfold k_slices_Compare_int_int r_slices_Compare_int_int
  simp
  refine awp_loop (fun n σ => ∃ i : Nat, i ≤ xs.length ∧ i ≤ ys.length ∧ n = xs.length - i ∧ ordL xs ys = ordL (xs.drop i) (ys.drop i) ∧ σ = ⟨[(0, .one (.ar false 0 1 (xs.map rI))), (1, .one (.ar false 0 1 (ys.map rI))), (9, .one (.ar false 0 1 (xs.map rI))), (10, aI xs.length), (11, aI i)], []⟩) (xs.length) ⟨0, by simp⟩ ?_
  rintro n σ ⟨i, hi, hi2, rfl, ht, rfl⟩
  by_cases h : i < xs.length
  · by_cases h2 : i < ys.length
    · rw [ordL_step h h2] at ht
      have h3 : ¬ ys.length ≤ i := by omega
      simp [h, h2, h3]
      refine callG_F (h_cmpCompare _ _) (by simp) ?_
      by_cases c1 : ordI xs[i] ys[i] = 0
      · rw [if_pos c1] at ht
        simp [c1]
        refine ⟨xs.length - (i + 1), by omega, i + 1, by omega, by omega, rfl, ht, ?_⟩
        rw [wrapI (by omega) (by omega)]
        simp
      · rw [if_neg c1] at ht
        simp [c1, ht]
    · rw [ordL_end (.inr (by omega)) hi hi2, if_neg (by omega), if_pos (by omega)] at ht
      have h3 : ys.length ≤ i := by omega
      simp [h, h3, ht]
  · rw [ordL_end (.inl (by omega)) hi hi2] at ht
    by_cases c1 : xs.length < ys.length
    · rw [if_pos c1] at ht
      simp [h, c1, ht]
    · rw [if_neg c1, if_neg (by omega)] at ht
      simp [h, c1, ht]
end Go.Am
-- ints
namespace Go.Am
open Go.Proofs
set_option maxHeartbeats 4000000
set_option maxRecDepth 100000
attribute [-simp] BitVec.toNat_or BitVec.toNat_and BitVec.toNat_ofInt
-- 22 loop.example/g00485/laws.eqIntS
def k_laws_eqIntS : K :=
 .seq (
  .reg none [⟨(some 4), none, .asn (.c (.bool false))⟩]) (
 .seq (
  .seq (
   .reg none [⟨(some 6), none, .mv (.t 0)⟩,
     ⟨(some 7), none, .len (.t 6)⟩,
     ⟨(some 8), none, .mv (.t 1)⟩,
     ⟨(some 9), none, .len (.t 8)⟩,
     ⟨(some 10), none, .bin .neq (.t 7) (.t 9)⟩]) (
  .cond (.t 10) (
   .seq (
    .reg none [⟨(some 4), none, .asn (.c (.bool false))⟩]) (
   .ret)) (
   .skip))) (
 .seq (
  .seq (
   .reg none [⟨(some 5), none, .asn (.c (.int .i64 (0)))⟩]) (
  .block 0 (
   .loop (some ([0, 1, 5], [0, 1, 5, 1000])) (
    .seq (
     .seq (
      .reg none [⟨(some 11), none, .mv (.t 5)⟩,
        ⟨(some 12), none, .mv (.t 0)⟩,
        ⟨(some 13), none, .len (.t 12)⟩,
        ⟨(some 14), none, .bin .lss (.t 11) (.t 13)⟩]) (
     .cond (.t 14) (
      .skip) (
      .exit 0))) (
    .seq (
     .block 1 (
      .seq (
       .drw none 9 [⟨(some 17), none, .mv (.t 0)⟩,
         ⟨(some 18), none, .mv (.t 5)⟩,
         ⟨(some 19), none, .iad 1 (.t 17) (.t 18)⟩,
         ⟨(some 20), none, .ld 1 false (.t 19)⟩,
         ⟨(some 21), none, .mv (.t 1)⟩,
         ⟨(some 22), none, .mv (.t 5)⟩,
         ⟨(some 23), none, .iad 1 (.t 21) (.t 22)⟩,
         ⟨(some 24), none, .ld 1 false (.t 23)⟩,
         ⟨(some 25), none, .bin .neq (.t 20) (.t 24)⟩]) (
      .cond (.t 25) (
       .seq (
        .reg none [⟨(some 4), none, .asn (.c (.bool false))⟩]) (
       .ret)) (
       .skip)))) (
    .reg none [⟨(some 15), none, .mv (.t 5)⟩,
      ⟨(some 16), none, .bin .add (.t 15) (.c (.int .i64 (1)))⟩,
      ⟨(some 5), none, .asn (.t 16)⟩])))))) (
 .seq (
  .reg none [⟨(some 4), none, .asn (.c (.bool true))⟩]) (
 .ret))))
def r_laws_eqIntS : Nat × List RV := (26, [.t 4])

theorem c_laws_eqIntS : cmpS PT PF PA (Try.prog.funcs[22]?) = some (r_laws_eqIntS.1, r_laws_eqIntS.2, stripK k_laws_eqIntS) := by kernel_rfl

theorem h_eqIntS (xs : List Int) (hx : wL w0 xs < 2 ^ 40) : CallsF Try.prog 22 [.one (.ar false 0 1 (xs.map rI)), .one (.ar false 0 1 (xs.map rI))] (aB true) := by
  refine Prun c_laws_eqIntS (by simp [r_laws_eqIntS]) (by simp) ?_
  unfold k_laws_eqIntS r_laws_eqIntS
  rw [wL_w0] at hx
  simp
  refine awp_loop (fun n σ => ∃ i : Nat, i ≤ xs.length ∧ n = xs.length - i ∧ σ = ⟨[(0, .one (.ar false 0 1 (xs.map rI))), (1, .one (.ar false 0 1 (xs.map rI))), (5, aI i)], []⟩) (xs.length) ⟨0, by simp⟩ ?_
  rintro n σ ⟨i, hi, rfl, rfl⟩
  by_cases h : i < xs.length
  · simp [h]
    refine ⟨xs.length - (i + 1), by omega, i + 1, by omega, rfl, ?_⟩
    rw [wrapI (by omega) (by omega)]
    simp
  · simp [h]
-- 18 loop.example/g00485/laws.toIntS
def k_laws_toIntS : K :=
 .seq (
  .reg none [⟨(some 2), none, .asn (.c (.ar true 3 1 []))⟩]) (
 .seq (
  .reg none [⟨(some 5), none, .mv (.t 0)⟩,
    ⟨(some 6), none, .len (.t 5)⟩,
    ⟨(some 7), none, .mks 3 1 8 [(.int .i64 (0))] (.t 6) (.t 6)⟩,
    ⟨(some 3), none, .asn (.t 7)⟩]) (
 .seq (
  .seq (
   .reg none [⟨(some 4), none, .asn (.c (.int .i64 (0)))⟩]) (
  .block 0 (
   .loop (some ([0, 3, 4], [0, 3, 4, 1000])) (
    .seq (
     .seq (
      .reg none [⟨(some 8), none, .mv (.t 4)⟩,
        ⟨(some 9), none, .mv (.t 0)⟩,
        ⟨(some 10), none, .len (.t 9)⟩,
        ⟨(some 11), none, .bin .lss (.t 8) (.t 10)⟩]) (
     .cond (.t 11) (
      .skip) (
      .exit 0))) (
    .seq (
     .block 1 (
      .reg none [⟨(some 14), none, .mv (.t 3)⟩,
        ⟨(some 15), none, .mv (.t 4)⟩,
        ⟨(some 16), none, .mv (.t 0)⟩,
        ⟨(some 17), none, .mv (.t 4)⟩,
        ⟨(some 18), none, .iad 1 (.t 16) (.t 17)⟩,
        ⟨(some 19), none, .ld 1 false (.t 18)⟩,
        ⟨(some 20), none, .iad 1 (.t 14) (.t 15)⟩,
        ⟨none, none, .st 1 false (.t 20) (.t 19)⟩])) (
    .reg none [⟨(some 12), none, .mv (.t 4)⟩,
      ⟨(some 13), none, .bin .add (.t 12) (.c (.int .i64 (1)))⟩,
      ⟨(some 4), none, .asn (.t 13)⟩])))))) (
 .seq (
  .reg none [⟨(some 21), none, .mv (.t 3)⟩,
    ⟨(some 2), none, .asn (.t 21)⟩]) (
 .ret))))
def r_laws_toIntS : Nat × List RV := (22, [.t 2])

theorem c_laws_toIntS : cmpS PT PF PA (Try.prog.funcs[18]?) = some (r_laws_toIntS.1, r_laws_toIntS.2, stripK k_laws_toIntS) := by kernel_rfl

theorem h_toIntS (xs : List Int) (hx : wL w0 xs < 2 ^ 31) : CallsF Try.prog 18 [.one (.ar false 0 1 (xs.map rI))] (.one (.ar true 3 1 (xs.map rI))) := by
  refine Prun c_laws_toIntS (by simp [r_laws_toIntS]) (by simp) ?_
  unfold k_laws_toIntS r_laws_toIntS
  rw [wL_w0] at hx
  have hc : ((xs.length : Int) ≤ 4294967296) := by omega
  simp [hc]
  refine awp_loop (fun n σ => ∃ i : Nat, i ≤ xs.length ∧ n = xs.length - i ∧ σ = ⟨[(0, .one (.ar false 0 1 (xs.map rI))), (3, .one (.vw 3 1 3 [] 0 xs.length)), (4, aI i)], [(3, ⟨3, 1, part rI [.int .i64 0] xs i⟩)]⟩) (xs.length) ⟨0, by simp [part_zero]⟩ ?_
  rintro n σ ⟨i, hi, rfl, rfl⟩
  by_cases h : i < xs.length
  · simp [h, part_get h]
    refine ⟨xs.length - (i + 1), by omega, i + 1, by omega, rfl, ?_⟩
    rw [wrapI (by omega) (by omega)]
    have := part_set (r := rI) (z := [.int .i64 0]) h
    simp only [rI] at this
    simp [this]
  · have : i = xs.length := by omega
    subst this
    simp [part_all]
end Go.Am
-- Conf_y
namespace Go.Am
open Go.Proofs
set_option maxHeartbeats 4000000
set_option maxRecDepth 100000
attribute [-simp] BitVec.toNat_or BitVec.toNat_and BitVec.toNat_ofInt
structure TConf where
  alt : Int
  row : List Int
  deriving DecidableEq, Inhabited
def rConf (a : TConf) : List C := [cI a.alt, .ar true 3 1 (a.row.map rI)]
def sConf (a : TConf) : List C := [cI a.alt, .ar false 0 1 (a.row.map rI)]
def zConf : List C := [cI 0, .ar true 3 1 []]
@[simp] theorem rConf_len (a : TConf) : (rConf a).length = 2 := rfl
@[simp] theorem sConf_len (a : TConf) : (sConf a).length = 2 := rfl
@[simp] theorem shr_rConf (a : TConf) : shrRow (rConf a) = sConf a := by simp [rConf, sConf]
@[simp] theorem shr_sConf (a : TConf) : shrRow (sConf a) = sConf a := by simp [sConf]
@[simp] theorem shrs_rConf (xs : List TConf) : shrRows (xs.map rConf) = xs.map sConf := shrRows_of shr_rConf xs
@[simp] theorem shrs_sConf (xs : List TConf) : shrRows (xs.map sConf) = xs.map sConf := shrRows_of shr_sConf xs
@[simp] theorem noSh_rConf (xs : List TConf) : noShRows (xs.map rConf) = true := noSh_of (fun a => by simp [rConf]) xs
def wConf (a : TConf) : Nat := wL w0 a.row
def lConf (a : TConf) : Prop := lL l0 a.row
def mConf : Mk TConf := ⟨fun a k => ⟨k, mI.mkL a.row (k + 1)⟩, fun a => 1 + mI.nL a.row⟩
@[simp] theorem mConf_wr (a : TConf) (k : Int) : mConf.wr a k = ⟨k, mI.mkL a.row (k + 1)⟩ := rfl
@[simp] theorem mConf_n (a : TConf) : mConf.n a = 1 + mI.nL a.row := rfl
end Go.Am
-- SameConf
namespace Go.Am
open Go.Proofs
set_option maxHeartbeats 4000000
set_option maxRecDepth 100000
attribute [-simp] BitVec.toNat_or BitVec.toNat_and BitVec.toNat_ofInt
def ordC (a b : TConf) : Int := orI [ordI a.alt b.alt, ordL a.row b.row]
theorem ordC_eq {a b : TConf} : ordC a b = 0 ↔ a = b := by
  obtain ⟨a1, a2⟩ := a
  obtain ⟨b1, b2⟩ := b
  simp only [ordC, orI, TConf.mk.injEq]
  by_cases h : ordI a1 b1 = 0
  · rw [if_pos h]
    have h1 := ordI_eq.1 h
    by_cases h2 : ordL a2 b2 = 0
    · have h3 := ordL_eq.1 h2
      subst h3
      simp [h2, h1]
    · have : ¬ a2 = b2 := fun e => h2 (ordL_eq.2 e)
      simp [h2, this]
  · have : ¬ a1 = b1 := fun e => h (ordI_eq.2 e)
    simp [h, this]
-- 133 loop.example/g00485/spec.l11Cmp
def k_spec_l11Cmp : K :=
 .seq (
  .reg none [⟨(some 2), none, .box 96 2 (.t 0)⟩,
    ⟨(some 3), none, .box 96 2 (.t 1)⟩,
    ⟨(some 4), none, .asn (.c (.int .i64 (0)))⟩]) (
 .seq (
  .seq (
   .reg none [⟨(some 5), none, .fad 0 (.t 2)⟩,
     ⟨(some 6), none, .ld 1 false (.t 5)⟩,
     ⟨(some 7), none, .fad 0 (.t 3)⟩,
     ⟨(some 8), none, .ld 1 false (.t 7)⟩,
     ⟨(some 9), none, .bin .lss (.t 6) (.t 8)⟩]) (
  .cond (.t 9) (
   .seq (
    .reg none [⟨(some 4), none, .asn (.c (.int .i64 (-1)))⟩]) (
   .ret)) (
   .skip))) (
 .seq (
  .seq (
   .reg none [⟨(some 10), none, .fad 0 (.t 2)⟩,
     ⟨(some 11), none, .ld 1 false (.t 10)⟩,
     ⟨(some 12), none, .fad 0 (.t 3)⟩,
     ⟨(some 13), none, .ld 1 false (.t 12)⟩,
     ⟨(some 14), none, .bin .gtr (.t 11) (.t 13)⟩]) (
  .cond (.t 14) (
   .seq (
    .reg none [⟨(some 4), none, .asn (.c (.int .i64 (1)))⟩]) (
   .ret)) (
   .skip))) (
 .seq (
  .reg none [⟨(some 15), none, .fad 1 (.t 2)⟩,
    ⟨(some 16), none, .ld 1 false (.t 15)⟩,
    ⟨(some 17), none, .fad 1 (.t 3)⟩,
    ⟨(some 18), none, .ld 1 false (.t 17)⟩,
    ⟨(some 19), none, .call 163 [(.t 16), (.t 18)]⟩,
    ⟨(some 4), none, .asn (.t 19)⟩]) (
 .ret))))
def r_spec_l11Cmp : Nat × List RV := (20, [.t 4])

theorem c_spec_l11Cmp : cmpS PT PF PA (Try.prog.funcs[133]?) = some (r_spec_l11Cmp.1, r_spec_l11Cmp.2, stripK k_spec_l11Cmp) := by kernel_rfl

theorem h_spec_l11Cmp (a b : TConf) (ha : wConf a < 2 ^ 40) : CallsF Try.prog 133 [.agg (sConf a), .agg (sConf b)] (aI (ordC a b)) := by
  refine Prun c_spec_l11Cmp (by simp [r_spec_l11Cmp]) (by simp) ?_
  unfold k_spec_l11Cmp r_spec_l11Cmp
  simp only [wConf, wL_w0] at ha
  simp [sConf]
  by_cases c1 : a.alt < b.alt
  · simp [c1, ordC, orI, ordI]
  · by_cases c2 : b.alt < a.alt
    · simp [c1, c2, ordC, orI, ordI]
    · have e : ordC a b = ordL a.row b.row := by
        have : ordI a.alt b.alt = 0 := by unfold ordI; rw [if_neg c1, if_neg c2]
        simp only [ordC, orI, this, if_true]
        split <;> simp_all
      simp [c1, c2]
      refine callG_F (h_spec_ListCmp a.row b.row (by omega)) (by simp) ?_
      simp [e]
-- 190 loop.example/g00485/impl.compareConfs
def k_impl_compareConfs : K :=
 .seq (
  .reg none [⟨(some 2), none, .box 96 2 (.t 0)⟩,
    ⟨(some 3), none, .box 96 2 (.t 1)⟩,
    ⟨(some 4), none, .asn (.c (.int .i64 (0)))⟩]) (
 .seq (
  .drw none 10 [⟨(some 5), none, .fad 0 (.t 2)⟩,
    ⟨(some 6), none, .ld 1 false (.t 5)⟩,
    ⟨(some 7), none, .fad 0 (.t 3)⟩,
    ⟨(some 8), none, .ld 1 false (.t 7)⟩,
    ⟨(some 9), none, .call 206 [(.t 6), (.t 8)]⟩,
    ⟨(some 10), none, .fad 1 (.t 2)⟩,
    ⟨(some 11), none, .ld 1 false (.t 10)⟩,
    ⟨(some 12), none, .fad 1 (.t 3)⟩,
    ⟨(some 13), none, .ld 1 false (.t 12)⟩,
    ⟨(some 14), none, .call 207 [(.t 11), (.t 13)]⟩,
    ⟨(some 15), none, .bls 3 1 false [(.t 9), (.t 14)]⟩,
    ⟨(some 16), none, .call 205 [(.t 15)]⟩,
    ⟨(some 4), none, .asn (.t 16)⟩]) (
 .ret))
def r_impl_compareConfs : Nat × List RV := (17, [.t 4])

theorem c_impl_compareConfs : cmpS PT PF PA (Try.prog.funcs[190]?) = some (r_impl_compareConfs.1, r_impl_compareConfs.2, stripK k_impl_compareConfs) := by kernel_rfl

theorem h_impl_compareConfs (a b : TConf) (ha : wConf a < 2 ^ 40) : CallsF Try.prog 190 [.agg (sConf a), .agg (sConf b)] (aI (ordC a b)) := by
  refine Prun c_impl_compareConfs (by simp [r_impl_compareConfs]) (by simp) ?_
  unfold k_impl_compareConfs r_impl_compareConfs
  simp only [wConf, wL_w0] at ha
  simp [sConf]
  refine ⟨_, by simp, h_cmpCompare _ _, ?_⟩
  simp
  refine ⟨_, by simp, h_slicesCompare a.row b.row (by omega), ?_⟩
  simp
  refine callG_F (h_cmpOr [ordI a.alt b.alt, ordL a.row b.row] (by simp)) (by simp) ?_
  simp [ordC]
-- 165 loop.example/g00485/impl.sameConf
def k_impl_sameConf : K :=
 .seq (
  .reg none [⟨(some 2), none, .box 96 2 (.t 0)⟩,
    ⟨(some 3), none, .box 96 2 (.t 1)⟩,
    ⟨(some 4), none, .asn (.c (.bool false))⟩]) (
 .seq (
  .reg none [⟨(some 5), none, .ld 2 true (.t 2)⟩,
    ⟨(some 6), none, .ld 2 true (.t 3)⟩,
    ⟨(some 7), none, .call 190 [(.t 5), (.t 6)]⟩,
    ⟨(some 8), none, .bin .eql (.t 7) (.c (.int .i64 (0)))⟩,
    ⟨(some 4), none, .asn (.t 8)⟩]) (
 .ret))
def r_impl_sameConf : Nat × List RV := (9, [.t 4])

theorem c_impl_sameConf : cmpS PT PF PA (Try.prog.funcs[165]?) = some (r_impl_sameConf.1, r_impl_sameConf.2, stripK k_impl_sameConf) := by kernel_rfl

theorem h_impl_sameConf (a b : TConf) (ha : wConf a < 2 ^ 40) : CallsF Try.prog 165 [.agg (sConf a), .agg (sConf b)] (aB (decide (a = b))) := by
  refine Prun c_impl_sameConf (by simp [r_impl_sameConf]) (by simp) ?_
  unfold k_impl_sameConf r_impl_sameConf
  simp [sConf]
  refine callG_F (h_impl_compareConfs a b ha) (by simp) ?_
  by_cases h : a = b
  · simp [h, ordC_eq.2 rfl]
  · have : ¬ ordC a b = 0 := fun e => h (ordC_eq.1 e)
    simp [h, this]
-- 83 loop.example/g00485/spec.l12Sets
def k_spec_l12Sets : K :=
 .seq (
  .reg none [⟨(some 4), none, .asn (.c (.bool false))⟩]) (
 .seq (
  .seq (
   .reg none [⟨(some 6), none, .mv (.t 0)⟩,
     ⟨(some 7), none, .len (.t 6)⟩,
     ⟨(some 8), none, .mv (.t 1)⟩,
     ⟨(some 9), none, .len (.t 8)⟩,
     ⟨(some 10), none, .bin .neq (.t 7) (.t 9)⟩]) (
  .cond (.t 10) (
   .seq (
    .reg none [⟨(some 4), none, .asn (.c (.bool false))⟩]) (
   .ret)) (
   .skip))) (
 .seq (
  .seq (
   .reg none [⟨(some 5), none, .asn (.c (.int .i64 (0)))⟩]) (
  .block 0 (
   .loop (some ([0, 1, 5], [0, 1, 5, 1000])) (
    .seq (
     .seq (
      .reg none [⟨(some 11), none, .mv (.t 5)⟩,
        ⟨(some 12), none, .mv (.t 0)⟩,
        ⟨(some 13), none, .len (.t 12)⟩,
        ⟨(some 14), none, .bin .lss (.t 11) (.t 13)⟩]) (
     .cond (.t 14) (
      .skip) (
      .exit 0))) (
    .seq (
     .block 1 (
      .seq (
       .drw none 10 [⟨(some 17), none, .mv (.t 0)⟩,
         ⟨(some 18), none, .mv (.t 5)⟩,
         ⟨(some 19), none, .iad 2 (.t 17) (.t 18)⟩,
         ⟨(some 20), none, .ld 2 true (.t 19)⟩,
         ⟨(some 21), none, .mv (.t 1)⟩,
         ⟨(some 22), none, .mv (.t 5)⟩,
         ⟨(some 23), none, .iad 2 (.t 21) (.t 22)⟩,
         ⟨(some 24), none, .ld 2 true (.t 23)⟩,
         ⟨(some 25), none, .call 133 [(.t 20), (.t 24)]⟩,
         ⟨(some 26), none, .bin .neq (.t 25) (.c (.int .i64 (0)))⟩]) (
      .cond (.t 26) (
       .seq (
        .reg none [⟨(some 4), none, .asn (.c (.bool false))⟩]) (
       .ret)) (
       .skip)))) (
    .reg none [⟨(some 15), none, .mv (.t 5)⟩,
      ⟨(some 16), none, .bin .add (.t 15) (.c (.int .i64 (1)))⟩,
      ⟨(some 5), none, .asn (.t 16)⟩])))))) (
 .seq (
  .reg none [⟨(some 4), none, .asn (.c (.bool true))⟩]) (
 .ret))))
def r_spec_l12Sets : Nat × List RV := (27, [.t 4])

theorem c_spec_l12Sets : cmpS PT PF PA (Try.prog.funcs[83]?) = some (r_spec_l12Sets.1, r_spec_l12Sets.2, stripK k_spec_l12Sets) := by kernel_rfl

theorem h_spec_l12Sets (xs ys : List TConf) (hx : wL wConf xs < 2 ^ 40) : CallsF Try.prog 83 [.one (.ar false 0 2 (xs.map sConf)), .one (.ar false 0 2 (ys.map sConf))] (aB (decide (xs = ys))) := by
  refine Prun c_spec_l12Sets (by simp [r_spec_l12Sets]) (by simp) ?_
  unfold k_spec_l12Sets r_spec_l12Sets
  have hlen := wL_len wConf xs
  by_cases hl : xs.length = ys.length
  · simp [hl]
    refine awp_loop (fun n σ => ∃ i : Nat, i ≤ xs.length ∧ n = xs.length - i ∧ xs.take i = ys.take i ∧ σ = ⟨[(0, .one (.ar false 0 2 (xs.map sConf))), (1, .one (.ar false 0 2 (ys.map sConf))), (5, aI i)], []⟩) (xs.length) ⟨0, by simp⟩ ?_
    rintro n σ ⟨i, hi, rfl, ht, rfl⟩
    by_cases h : i < xs.length
    · have h2 : i < ys.length := by omega
      have hw := wL_get wConf xs i h
      simp [h, h2, sConf]
      refine ⟨_, by simp, h_spec_l11Cmp xs[i] ys[i] (by omega), ?_⟩
      by_cases he : xs[i] = ys[i]
      · simp [ordC_eq.2 he]
        refine ⟨xs.length - (i + 1), by omega, i + 1, by omega, rfl, (take_step h h2).2 ⟨ht, he⟩, ?_⟩
        rw [wrapI (by omega) (by omega)]
        simp
      · have : ¬ ordC xs[i] ys[i] = 0 := fun e => he (ordC_eq.1 e)
        simp [this]
        intro hh
        subst hh
        exact he rfl
    · simp [h]
      have : i = xs.length := by omega
      rw [this, List.take_length, hl, List.take_length] at ht
      exact ht
  · have : ¬ (xs.length : Int) = ys.length := by omega
    simp [this]
    rintro rfl
    exact hl rfl
end Go.Am
-- lists
namespace Go.Am
open Go.Proofs
set_option maxHeartbeats 4000000
set_option maxRecDepth 100000
attribute [-simp] BitVec.toNat_or BitVec.toNat_and BitVec.toNat_ofInt
attribute [-simp] rConf_len sConf_len shr_rConf shr_sConf shrs_rConf shrs_sConf noSh_rConf mConf_wr mConf_n
theorem all_step {α : Type} {p : α → Bool} {xs : List α} {i : Nat} (h : i < xs.length) : (xs.take (i + 1)).all p = ((xs.take i).all p && p xs[i]) := by
  rw [List.take_succ_eq_append_getElem h]
  simp only [List.all_append, List.all_cons, List.all_nil, Bool.and_true]
theorem all_ff {α : Type} {p : α → Bool} {xs : List α} {i : Nat} (h : i < xs.length) (hp : p xs[i] = false) : xs.all p = false := by
  cases ha : xs.all p with
  | false => rfl
  | true =>
    have := List.all_eq_true.1 ha xs[i] (List.getElem_mem h)
    rw [hp] at this; cases this
/-- All of the first i. -/
def allTo {α : Type} (p : α → Bool) (xs : List α) (i : Nat) : Bool := (xs.take i).all p
theorem allTo_zero {α : Type} {p : α → Bool} {xs : List α} : allTo p xs 0 = true := by simp [allTo]
theorem allTo_step {α : Type} {p : α → Bool} {xs : List α} {i : Nat} (h : i < xs.length) : allTo p xs (i + 1) = (allTo p xs i && p xs[i]) := all_step h
theorem allTo_all {α : Type} {p : α → Bool} {xs : List α} : allTo p xs xs.length = xs.all p := by rw [allTo, List.take_length]
/-- All below n. -/
def allN (p : Nat → Bool) : Nat → Bool
  | 0 => true
  | n + 1 => allN p n && p n
theorem allN_step {p : Nat → Bool} {n : Nat} : allN p (n + 1) = (allN p n && p n) := rfl
theorem allN_iff {p : Nat → Bool} : ∀ {n : Nat}, allN p n = true ↔ ∀ i, i < n → p i = true
  | 0 => by simp [allN]
  | n + 1 => by
    rw [allN, Bool.and_eq_true, allN_iff (n := n)]
    constructor
    · rintro ⟨h1, h2⟩ i hi
      by_cases h : i = n
      · subst h; exact h2
      · exact h1 i (by omega)
    · intro h; exact ⟨fun i hi => h i (by omega), h n (by omega)⟩
theorem allN_ff {p : Nat → Bool} {n i : Nat} (h : i < n) (hp : p i = false) : allN p n = false := by
  cases ha : allN p n with
  | false => rfl
  | true => have := allN_iff.1 ha i h; rw [hp] at this; cases this
end Go.Am
-- InsInt
namespace Go.Am
open Go.Proofs
set_option maxHeartbeats 4000000
set_option maxRecDepth 100000
attribute [-simp] BitVec.toNat_or BitVec.toNat_and BitVec.toNat_ofInt
attribute [-simp] rConf_len sConf_len shr_rConf shr_sConf shrs_rConf shrs_sConf noSh_rConf mConf_wr mConf_n
def renInt : Shelf.Ren := ⟨fun k => if k = 22 then 189 else if k = 29 then 203 else 204, fun k => if k = 9 then 3 else if k = 24 then 34 else k, fun k => k⟩
theorem laid_InsInt : AmL.LIns Try.prog renInt 1 where
  mixed := by kernel_rfl
  f22 := ⟨"slices.Insert[[]int,int]", by decide, by kernel_rfl⟩
  ov := ⟨_, Try.func203, by kernel_rfl, by kernel_rfl, by kernel_rfl, by kernel_rfl⟩
  t3 := Try.underlying3
  a3 := Try.isAgg3
  z3 := Try.sizeOf3
  t4 := Try.underlying4
  a4 := Try.isAgg4
  z4 := Try.sizeOf4
  z9 := Try.sizeOf3
  t24 := Try.underlying34
  a24 := Try.isAgg34
  z24 := Try.sizeOf34
  i9 := by
    obtain ⟨i, h1, h2, h3, h4⟩ := info_parts (show (Try.prog.info? 3).map (fun i => (i.zero, i.size, i.bytes)) = some (some (.int .i64 0), 1, 8) by kernel_rfl)
    exact ⟨i, _, h1, h2, h3, by omega, rfl⟩
  he := by decide
theorem h_insInt (xs : List Int) (x : Int) (i : Nat) (hi : i ≤ xs.length) (hn : xs.length + 1 ≤ 4294967296) : CallsF Try.prog 189 [.one (.ar true 3 1 (xs.map rI)), aI i, .one (.ar true 3 1 [rI x])] (.one (.ar true 3 1 ((xs.take i ++ [x] ++ xs.drop i).map rI))) := by
  have h := ins_callsA laid_InsInt (xs.map rI) (rI x) i (by simpa using hi) (by simpa using hn)
  simpa [renInt, aI, cI] using h
end Go.Am
-- Contains
namespace Go.Am
open Go.Proofs
set_option maxHeartbeats 4000000
set_option maxRecDepth 100000
attribute [-simp] BitVec.toNat_or BitVec.toNat_and BitVec.toNat_ofInt
attribute [-simp] rConf_len sConf_len shr_rConf shr_sConf shrs_rConf shrs_sConf noSh_rConf mConf_wr mConf_n
def indexOf (xs : List Int) (x : Int) : Int := match xs.idxOf? x with
  | some i => i
  | none => -1
-- 169 slices.Index[[]int,int]
def k_slices_Index_int_int : K :=
 .seq (
  .reg none [⟨(some 4), none, .asn (.c (.int .i64 (0)))⟩]) (
 .seq (
  .seq (
   .reg none [⟨(some 6), none, .mv (.t 0)⟩,
     ⟨(some 7), none, .len (.t 6)⟩,
     ⟨(some 8), none, .mv (.c (.int .i64 (0)))⟩]) (
  .block 0 (
   .loop (some ([0, 1, 7, 8], [0, 1, 1000])) (
    .seq (
     .reg none [⟨(some 9), none, .bin .lss (.t 8) (.t 7)⟩]) (
    .seq (
     .cond (.t 9) (
      .skip) (
      .exit 0)) (
    .seq (
     .block 1 (
      .seq (
       .reg none [⟨(some 10), none, .mv (.t 8)⟩,
         ⟨(some 5), none, .asn (.t 10)⟩]) (
      .seq (
       .reg none [⟨(some 11), none, .mv (.t 1)⟩,
         ⟨(some 12), none, .mv (.t 0)⟩,
         ⟨(some 13), none, .mv (.t 5)⟩,
         ⟨(some 14), none, .iad 1 (.t 12) (.t 13)⟩,
         ⟨(some 15), none, .ld 1 false (.t 14)⟩,
         ⟨(some 16), none, .bin .eql (.t 11) (.t 15)⟩]) (
      .cond (.t 16) (
       .seq (
        .reg none [⟨(some 17), none, .mv (.t 5)⟩,
          ⟨(some 4), none, .asn (.t 17)⟩]) (
       .ret)) (
       .skip))))) (
    .reg none [⟨(some 18), none, .bin .add (.t 8) (.c (.int .i64 (1)))⟩,
      ⟨(some 8), none, .mv (.t 18)⟩]))))))) (
 .seq (
  .reg none [⟨(some 4), none, .asn (.c (.int .i64 (-1)))⟩]) (
 .ret)))
def r_slices_Index_int_int : Nat × List RV := (19, [.t 4])

theorem c_slices_Index_int_int : cmpS PT PF PA (Try.prog.funcs[169]?) = some (r_slices_Index_int_int.1, r_slices_Index_int_int.2, stripK k_slices_Index_int_int) := by kernel_rfl

theorem h_slicesIndex (xs : List Int) (x : Int) (hx : xs.length < 2 ^ 63) : CallsF Try.prog 169 [.one (.ar false 0 1 (xs.map rI)), aI x] (aI (indexOf xs x)) := by
  refine Prun c_slices_Index_int_int (by simp [r_slices_Index_int_int]) (by simp) ?_
  unfold k_slices_Index_int_int r_slices_Index_int_int
  simp
  refine awp_loop (fun n σ => ∃ i : Nat, i ≤ xs.length ∧ n = xs.length - i ∧ x ∉ xs.take i ∧ σ = ⟨[(0, .one (.ar false 0 1 (xs.map rI))), (1, aI x), (7, aI xs.length), (8, aI i)], []⟩) xs.length ⟨0, by simp⟩ ?_
  rintro n σ ⟨i, hi, rfl, ha, rfl⟩
  by_cases h : i < xs.length
  · by_cases c : x = xs[i]
    · have : indexOf xs x = i := by
        have : xs.idxOf? x = some i := by
          rw [List.idxOf?, List.findIdx?_eq_some_iff_getElem]
          refine ⟨h, by simp [c], fun j hj => ?_⟩
          simp only [beq_iff_eq, Bool.not_eq_true, beq_eq_false_iff_ne, ne_eq]
          intro he
          exact ha (by rw [← he]; exact List.mem_take_iff_getElem.2 ⟨j, by omega, rfl⟩)
        rw [indexOf, this]
      simp [h, ← c, this]
    · simp [h, c]
      refine ⟨xs.length - (i + 1), by omega, i + 1, by omega, rfl, ?_, ?_⟩
      · rw [List.take_succ_eq_append_getElem h]
        intro hm
        rcases List.mem_append.1 hm with hm | hm
        · exact ha hm
        · exact c (List.mem_singleton.1 hm)
      · rw [wrapI (by omega) (by omega)]
        simp
  · have : i = xs.length := by omega
    subst this
    rw [List.take_length] at ha
    have : indexOf xs x = -1 := by
      have : xs.idxOf? x = none := by
        rw [List.idxOf?_eq_none_iff]; exact ha
      rw [indexOf, this]
    simp [this]
-- 142 slices.Contains[[]int,int]
def k_slices_Contains_int_int : K :=
 .seq (
  .reg none [⟨(some 4), none, .asn (.c (.bool false))⟩]) (
 .seq (
  .reg none [⟨(some 5), none, .mv (.t 0)⟩,
    ⟨(some 6), none, .mv (.t 1)⟩,
    ⟨(some 7), none, .call 169 [(.t 5), (.t 6)]⟩,
    ⟨(some 8), none, .bin .geq (.t 7) (.c (.int .i64 (0)))⟩,
    ⟨(some 4), none, .asn (.t 8)⟩]) (
 .ret))
def r_slices_Contains_int_int : Nat × List RV := (9, [.t 4])

theorem c_slices_Contains_int_int : cmpS PT PF PA (Try.prog.funcs[142]?) = some (r_slices_Contains_int_int.1, r_slices_Contains_int_int.2, stripK k_slices_Contains_int_int) := by kernel_rfl

theorem h_slicesContains (xs : List Int) (x : Int) (hx : xs.length < 2 ^ 63) : CallsF Try.prog 142 [.one (.ar false 0 1 (xs.map rI)), aI x] (aB (decide (x ∈ xs))) := by
  refine Prun c_slices_Contains_int_int (by simp [r_slices_Contains_int_int]) (by simp) ?_
  unfold k_slices_Contains_int_int r_slices_Contains_int_int
  simp
  refine callG_F (h_slicesIndex _ _ hx) (by simp) ?_
  have : (0 ≤ indexOf xs x) ↔ x ∈ xs := by
    unfold indexOf
    split
    · rename_i i h
      have := List.isSome_idxOf? (l := xs) (a := x)
      rw [h] at this
      simp at this
      constructor
      · intro; exact this
      · intro; omega
    · rename_i h
      rw [List.idxOf?_eq_none_iff] at h
      constructor
      · intro; omega
      · intro h2; exact absurd h2 h
  simp [this]
end Go.Am
-- SetAlts
namespace Go.Am
open Go.Proofs
set_option maxHeartbeats 4000000
set_option maxRecDepth 100000
attribute [-simp] BitVec.toNat_or BitVec.toNat_and BitVec.toNat_ofInt
def insAt (xs : List Int) (x : Int) : Nat := xs.findIdx (fun y => decide (x < y))
def setAdd (xs : List Int) (x : Int) : List Int := if x ∈ xs then xs else xs.take (insAt xs x) ++ [x] ++ xs.drop (insAt xs x)
theorem setAdd_len (xs : List Int) (x : Int) : (setAdd xs x).length ≤ xs.length + 1 := by
  unfold setAdd
  split
  · omega
  · simp; omega
theorem insAt_le (xs : List Int) (x : Int) : insAt xs x ≤ xs.length := List.findIdx_le_length
theorem insAt_no {xs : List Int} {x : Int} {i : Nat} (h : i < xs.length) (hx : xs[i] ≤ x) (hi : i ≤ insAt xs x) : i + 1 ≤ insAt xs x := by
  by_cases c : i = insAt xs x
  · have h2 : insAt xs x < xs.length := by omega
    have := List.findIdx_getElem (p := fun y => decide (x < y)) (xs := xs) (w := h2)
    have h3 : xs[i] = xs[insAt xs x] := by congr 1
    rw [h3] at hx
    have h4 : xs[insAt xs x] = xs[List.findIdx (fun y => decide (x < y)) xs] := rfl
    have := of_decide_eq_true this
    omega
  · omega
theorem insAt_yes {xs : List Int} {x : Int} {i : Nat} (h : i < xs.length) (hx : x < xs[i]) : insAt xs x ≤ i := by
  by_cases c : i < insAt xs x
  · have := List.not_of_lt_findIdx (p := fun y => decide (x < y)) (xs := xs) c
    simp at this
    omega
  · omega
def atFrom (xs : List Int) (x : Int) (m : Nat) : Nat := m + (xs.drop m).findIdx (fun y => decide (x < y))
theorem atFrom_all (xs : List Int) (x : Int) : atFrom xs x xs.length = xs.length := by simp [atFrom]
theorem atFrom_zero (xs : List Int) (x : Int) : atFrom xs x 0 = insAt xs x := by simp [atFrom, insAt]
theorem atFrom_step (xs : List Int) (x : Int) {m : Nat} (h : m < xs.length) : atFrom xs x m = if x < xs[m] then m else atFrom xs x (m + 1) := by
  unfold atFrom
  rw [List.drop_eq_getElem_cons h, List.findIdx_cons]
  by_cases c : x < xs[m]
  · simp [c]
  · simp [c]; omega
theorem atFrom_le (xs : List Int) (x : Int) {m : Nat} (h : m ≤ xs.length) : atFrom xs x m ≤ xs.length := by
  unfold atFrom
  have := List.findIdx_le_length (p := fun y => decide (x < y)) (xs := xs.drop m)
  simp at this; omega
-- 107 loop.example/g00485/spec.SetHas
def k_spec_SetHas : K :=
 .seq (
  .reg none [⟨(some 4), none, .asn (.c (.bool false))⟩]) (
 .seq (
  .seq (
   .reg none [⟨(some 5), none, .asn (.c (.int .i64 (0)))⟩]) (
  .block 0 (
   .loop (some ([0, 1, 5], [0, 1, 5, 1000])) (
    .seq (
     .seq (
      .reg none [⟨(some 6), none, .mv (.t 5)⟩,
        ⟨(some 7), none, .mv (.t 0)⟩,
        ⟨(some 8), none, .len (.t 7)⟩,
        ⟨(some 9), none, .bin .lss (.t 6) (.t 8)⟩]) (
     .cond (.t 9) (
      .skip) (
      .exit 0))) (
    .seq (
     .block 1 (
      .seq (
       .reg none [⟨(some 12), none, .mv (.t 0)⟩,
         ⟨(some 13), none, .mv (.t 5)⟩,
         ⟨(some 14), none, .iad 1 (.t 12) (.t 13)⟩,
         ⟨(some 15), none, .ld 1 false (.t 14)⟩,
         ⟨(some 16), none, .mv (.t 1)⟩,
         ⟨(some 17), none, .bin .eql (.t 15) (.t 16)⟩]) (
      .cond (.t 17) (
       .seq (
        .reg none [⟨(some 4), none, .asn (.c (.bool true))⟩]) (
       .ret)) (
       .skip)))) (
    .reg none [⟨(some 10), none, .mv (.t 5)⟩,
      ⟨(some 11), none, .bin .add (.t 10) (.c (.int .i64 (1)))⟩,
      ⟨(some 5), none, .asn (.t 11)⟩])))))) (
 .seq (
  .reg none [⟨(some 4), none, .asn (.c (.bool false))⟩]) (
 .ret)))
def r_spec_SetHas : Nat × List RV := (18, [.t 4])

theorem c_spec_SetHas : cmpS PT PF PA (Try.prog.funcs[107]?) = some (r_spec_SetHas.1, r_spec_SetHas.2, stripK k_spec_SetHas) := by kernel_rfl

theorem h_spec_SetHas (xs : List Int) (x : Int) (hx : xs.length < 2 ^ 40) : CallsF Try.prog 107 [.one (.ar false 0 1 (xs.map rI)), aI x] (aB (decide (x ∈ xs))) := by
  refine Prun c_spec_SetHas (by simp [r_spec_SetHas]) (by simp) ?_
  unfold k_spec_SetHas r_spec_SetHas
  simp
  refine awp_loop (fun n σ => ∃ i : Nat, i ≤ xs.length ∧ n = xs.length - i ∧ x ∉ xs.take i ∧ σ = ⟨[(0, .one (.ar false 0 1 (xs.map rI))), (1, aI x), (5, aI i)], []⟩) xs.length ⟨0, by simp⟩ ?_
  rintro n σ ⟨i, hi, rfl, ha, rfl⟩
  by_cases h : i < xs.length
  · by_cases c : xs[i] = x
    · have : x ∈ xs := by rw [← c]; exact List.getElem_mem h
      simp [h, c, this]
    · simp [h, c]
      refine ⟨xs.length - (i + 1), by omega, i + 1, by omega, rfl, ?_, ?_⟩
      · rw [List.take_succ_eq_append_getElem h]
        intro hm
        rcases List.mem_append.1 hm with hm | hm
        · exact ha hm
        · exact c (List.mem_singleton.1 hm).symm
      · rw [wrapI (by omega) (by omega)]
        simp
  · have : i = xs.length := by omega
    subst this
    rw [List.take_length] at ha
    simp [ha]
-- 129 loop.example/g00485/spec.SetAdd
def k_spec_SetAdd : K :=
 .seq (
  .reg none [⟨(some 4), none, .asn (.c (.ar true 3 1 []))⟩]) (
 .seq (
  .seq (
   .reg none [⟨(some 8), none, .mv (.t 0)⟩,
     ⟨(some 9), none, .mv (.t 1)⟩,
     ⟨(some 10), none, .call 107 [(.t 8), (.t 9)]⟩]) (
  .cond (.t 10) (
   .seq (
    .reg none [⟨(some 11), none, .bls 3 1 false []⟩,
      ⟨(some 12), none, .mv (.t 0)⟩,
      ⟨(some 13), none, .app 3 1 8 false (.t 11) (.t 12)⟩,
      ⟨(some 4), none, .asn (.t 13)⟩]) (
   .ret)) (
   .skip))) (
 .seq (
  .reg none [⟨(some 14), none, .mv (.t 0)⟩,
    ⟨(some 15), none, .len (.t 14)⟩,
    ⟨(some 5), none, .asn (.t 15)⟩]) (
 .seq (
  .seq (
   .reg none [⟨(some 16), none, .mv (.t 0)⟩,
     ⟨(some 17), none, .len (.t 16)⟩,
     ⟨(some 18), none, .bin .sub (.t 17) (.c (.int .i64 (1)))⟩,
     ⟨(some 6), none, .asn (.t 18)⟩]) (
  .block 0 (
   .loop (some ([0, 1, 5, 6], [0, 1, 5, 6, 1000])) (
    .seq (
     .seq (
      .reg none [⟨(some 19), none, .mv (.t 6)⟩,
        ⟨(some 20), none, .bin .geq (.t 19) (.c (.int .i64 (0)))⟩]) (
     .cond (.t 20) (
      .skip) (
      .exit 0))) (
    .seq (
     .block 1 (
      .seq (
       .reg none [⟨(some 23), none, .mv (.t 0)⟩,
         ⟨(some 24), none, .mv (.t 6)⟩,
         ⟨(some 25), none, .iad 1 (.t 23) (.t 24)⟩,
         ⟨(some 26), none, .ld 1 false (.t 25)⟩,
         ⟨(some 27), none, .mv (.t 1)⟩,
         ⟨(some 28), none, .bin .gtr (.t 26) (.t 27)⟩]) (
      .cond (.t 28) (
       .reg none [⟨(some 29), none, .mv (.t 6)⟩,
         ⟨(some 5), none, .asn (.t 29)⟩]) (
       .skip)))) (
    .reg none [⟨(some 21), none, .mv (.t 6)⟩,
      ⟨(some 22), none, .bin .sub (.t 21) (.c (.int .i64 (1)))⟩,
      ⟨(some 6), none, .asn (.t 22)⟩])))))) (
 .seq (
  .reg none [⟨(some 30), none, .bls 3 1 false []⟩,
    ⟨(some 31), none, .mv (.t 0)⟩,
    ⟨(some 32), none, .mv (.t 5)⟩,
    ⟨(some 33), none, .slc 1 (.t 31) none (some (.t 32))⟩,
    ⟨(some 34), none, .app 3 1 8 false (.t 30) (.t 33)⟩,
    ⟨(some 7), none, .asn (.t 34)⟩]) (
 .seq (
  .reg none [⟨(some 35), none, .mv (.t 7)⟩,
    ⟨(some 36), none, .mv (.t 1)⟩,
    ⟨(some 37), none, .bls 3 1 false [(.t 36)]⟩,
    ⟨(some 38), none, .app 3 1 8 false (.t 35) (.t 37)⟩,
    ⟨(some 7), none, .asn (.t 38)⟩]) (
 .seq (
  .reg none [⟨(some 39), none, .mv (.t 7)⟩,
    ⟨(some 40), none, .mv (.t 0)⟩,
    ⟨(some 41), none, .mv (.t 5)⟩,
    ⟨(some 42), none, .slc 1 (.t 40) (some (.t 41)) none⟩,
    ⟨(some 43), none, .app 3 1 8 false (.t 39) (.t 42)⟩,
    ⟨(some 4), none, .asn (.t 43)⟩]) (
 .ret)))))))
def r_spec_SetAdd : Nat × List RV := (44, [.t 4])

theorem c_spec_SetAdd : cmpS PT PF PA (Try.prog.funcs[129]?) = some (r_spec_SetAdd.1, r_spec_SetAdd.2, stripK k_spec_SetAdd) := by kernel_rfl

theorem h_spec_SetAdd (xs : List Int) (x : Int) (hx : xs.length < 2 ^ 31) : CallsF Try.prog 129 [.one (.ar false 0 1 (xs.map rI)), aI x] (.one (.ar true 3 1 ((setAdd xs x).map rI))) := by
  refine Prun c_spec_SetAdd (by simp [r_spec_SetAdd]) (by simp) ?_
  unfold k_spec_SetAdd r_spec_SetAdd
  simp
  refine callG_F (h_spec_SetHas xs x (by omega)) (by simp) ?_
  have hbN : xs.length ≤ 4294967296 := by omega
  by_cases c : x ∈ xs
  · simp [c, hbN, setAdd]
  simp [c]
  have w0 : IntKind.i64.wrap ((xs.length : Int) - 1) = xs.length - 1 := wrapI (by omega) (by omega)
  refine awp_loop (fun n σ => ∃ m : Nat, m ≤ xs.length ∧ n = m ∧ σ = ⟨[(0, .one (.ar false 0 1 (xs.map rI))), (1, aI x), (5, aI (atFrom xs x m)), (6, aI ((m : Int) - 1))], []⟩) xs.length ⟨xs.length, by simp [atFrom_all, w0]⟩ ?_
  rintro m σ ⟨n, hm, rfl, rfl⟩
  by_cases h : m = 0
  · subst h
    have hle := insAt_le xs x
    rw [show atFrom xs x 0 = insAt xs x from atFrom_zero xs x]
    simp only [setAdd, if_neg c]
    have hb1 : insAt xs x ≤ 4294967296 := by omega
    have hb2 : insAt xs x + 1 ≤ 4294967296 := by omega
    have hb3 : insAt xs x + 1 + (xs.length - insAt xs x) ≤ 4294967296 := by omega
    generalize insAt xs x = q at *
    simp [hle, hb1, hb2, hb3, Nat.min_eq_left hle]
    rw [List.take_take, Nat.min_self, List.take_of_length_le (by simp; omega), List.take_of_length_le (by simp; omega)]
    simp [rI]
  · obtain ⟨k, rfl⟩ : ∃ k, m = k + 1 := ⟨m - 1, by omega⟩
    have hk : k < xs.length := by omega
    have w1 : IntKind.i64.wrap ((k : Int) - 1) = k - 1 := wrapI (by omega) (by omega)
    have hst := atFrom_step xs x hk
    by_cases d : x < xs[k]
    · rw [if_pos d] at hst
      simp [hk, d]
      refine ⟨k, by omega, k, by omega, rfl, ?_⟩
      simp [w1, hst]
    · rw [if_neg d] at hst
      simp [hk, d]
      refine ⟨k, by omega, k, by omega, rfl, ?_⟩
      simp [w1, hst]
-- 162 loop.example/g00485/impl.addTo
def k_impl_addTo : K :=
 .seq (
  .reg none [⟨(some 4), none, .asn (.c (.ar true 3 1 []))⟩]) (
 .seq (
  .seq (
   .reg none [⟨(some 6), none, .mv (.t 0)⟩,
     ⟨(some 7), none, .mv (.t 1)⟩,
     ⟨(some 8), none, .call 142 [(.t 6), (.t 7)]⟩]) (
  .cond (.t 8) (
   .seq (
    .reg none [⟨(some 9), none, .mv (.t 0)⟩,
      ⟨(some 4), none, .asn (.t 9)⟩]) (
   .ret)) (
   .skip))) (
 .seq (
  .reg none [⟨(some 5), none, .asn (.c (.int .i64 (0)))⟩]) (
 .seq (
  .block 0 (
   .loop (some ([0, 1, 5], [0, 1, 5, 1000])) (
    .seq (
     .seq (
      .reg none [⟨(some 10), none, .mv (.t 5)⟩,
        ⟨(some 11), none, .mv (.t 0)⟩,
        ⟨(some 12), none, .len (.t 11)⟩,
        ⟨(some 13), none, .bin .lss (.t 10) (.t 12)⟩,
        ⟨(some 14), none, .mv (.t 13)⟩,
        ⟨(some 15), (some (14, true)), .mv (.t 0)⟩,
        ⟨(some 16), (some (14, true)), .mv (.t 5)⟩,
        ⟨(some 17), (some (14, true)), .iad 1 (.t 15) (.t 16)⟩,
        ⟨(some 18), (some (14, true)), .ld 1 false (.t 17)⟩,
        ⟨(some 19), (some (14, true)), .mv (.t 1)⟩,
        ⟨(some 20), (some (14, true)), .bin .leq (.t 18) (.t 19)⟩,
        ⟨(some 21), none, .pick (.t 14) (.t 20) (.c (.bool false))⟩]) (
     .cond (.t 21) (
      .skip) (
      .exit 0))) (
    .block 1 (
     .reg none [⟨(some 22), none, .mv (.t 5)⟩,
       ⟨(some 23), none, .bin .add (.t 22) (.c (.int .i64 (1)))⟩,
       ⟨(some 5), none, .asn (.t 23)⟩]))))) (
 .seq (
  .reg none [⟨(some 24), none, .mv (.t 0)⟩,
    ⟨(some 25), none, .mv (.t 5)⟩,
    ⟨(some 26), none, .mv (.t 1)⟩,
    ⟨(some 27), none, .bls 3 1 false [(.t 26)]⟩,
    ⟨(some 28), none, .callo 189 3 [(.t 24), (.t 25), (.t 27)]⟩,
    ⟨(some 4), none, .asn (.t 28)⟩]) (
 .ret)))))
def r_impl_addTo : Nat × List RV := (29, [.t 4])

theorem c_impl_addTo : cmpS PT PF PA (Try.prog.funcs[162]?) = some (r_impl_addTo.1, r_impl_addTo.2, stripK k_impl_addTo) := by kernel_rfl

theorem h_addTo (xs : List Int) (x : Int) (hx : xs.length < 2 ^ 31) : CallsF Try.prog 162 [.one (.ar true 3 1 (xs.map rI)), aI x] (.one (.ar true 3 1 ((setAdd xs x).map rI))) := by
  refine Prun c_impl_addTo (by simp [r_impl_addTo]) (by simp) ?_
  unfold k_impl_addTo r_impl_addTo
  simp
  refine callG_F (h_slicesContains xs x (by omega)) (by simp) ?_
  have hbN : xs.length ≤ 4294967296 := by omega
  by_cases c : x ∈ xs
  · simp [c, setAdd]
  simp [c]
  have hle := insAt_le xs x
  have hct := @insAt_no xs x
  have hck := @insAt_yes xs x
  rw [show setAdd xs x = xs.take (insAt xs x) ++ [x] ++ xs.drop (insAt xs x) by simp only [setAdd, if_neg c]]
  generalize insAt xs x = q at *
  refine awp_loop (fun n σ => ∃ i : Nat, i ≤ q ∧ n = xs.length - i ∧ σ = ⟨[(0, .one (.vw 3 1 0 [] 0 xs.length)), (1, aI x), (5, aI i)], [(0, ⟨3, 1, xs.map rI⟩)]⟩) xs.length ⟨0, by simp⟩ ?_
  rintro n σ ⟨i, hi, rfl, rfl⟩
  have w1 : IntKind.i64.wrap ((i : Int) + 1) = i + 1 := wrapI (by omega) (by omega)
  by_cases h : i < xs.length
  · by_cases d : xs[i] ≤ x
    · have h1 := hct h d hi
      simp [h, d]
      refine ⟨xs.length - (i + 1), by omega, i + 1, by omega, rfl, ?_⟩
      simp [w1]
    · have h1 := hck h (by omega)
      have h2 : i = q := by omega
      subst h2
      have hins := h_insInt xs x i (by omega) (by omega)
      simp [h, d]
      refine callOG_F hins (by simp) ?_
      simp
      exact List.take_of_length_le (by simp)
  · have h2 : i = q := by omega
    have h3 : i = xs.length := by omega
    subst h2
    have hins := h_insInt xs x i (by omega) (by omega)
    simp [h]
    refine callOG_F hins (by simp) ?_
    simp
    exact List.take_of_length_le (by simp)
def setAlts (xs : List TConf) : List Int := xs.foldl (fun l c => setAdd l c.1) []
def setAltsTo (xs : List TConf) (i : Nat) : List Int := setAlts (xs.take i)
theorem setAltsTo_step {xs : List TConf} {i : Nat} (h : i < xs.length) : setAltsTo xs (i + 1) = setAdd (setAltsTo xs i) xs[i].1 := by
  unfold setAltsTo setAlts
  rw [List.take_succ_eq_append_getElem h, List.foldl_append]
  rfl
theorem setAltsTo_all (xs : List TConf) : setAltsTo xs xs.length = setAlts xs := by rw [setAltsTo, List.take_length]
theorem setAltsTo_len (xs : List TConf) : ∀ {i : Nat}, i ≤ xs.length → (setAltsTo xs i).length ≤ i
  | 0, _ => by simp [setAltsTo, setAlts]
  | i + 1, h => by
    rw [setAltsTo_step (by omega)]
    have h1 := setAltsTo_len xs (i := i) (by omega)
    have h2 := setAdd_len (setAltsTo xs i) (xs[i]'(by omega)).1
    omega
-- 77 loop.example/g00485/spec.SetAlts
def k_spec_SetAlts : K :=
 .seq (
  .reg none [⟨(some 2), none, .asn (.c (.ar true 3 1 []))⟩]) (
 .seq (
  .reg none [⟨(some 5), none, .bls 3 1 false []⟩,
    ⟨(some 3), none, .asn (.t 5)⟩]) (
 .seq (
  .seq (
   .reg none [⟨(some 4), none, .asn (.c (.int .i64 (0)))⟩]) (
  .block 0 (
   .loop (some ([0, 3, 4], [0, 3, 4, 1000])) (
    .seq (
     .seq (
      .reg none [⟨(some 6), none, .mv (.t 4)⟩,
        ⟨(some 7), none, .mv (.t 0)⟩,
        ⟨(some 8), none, .len (.t 7)⟩,
        ⟨(some 9), none, .bin .lss (.t 6) (.t 8)⟩]) (
     .cond (.t 9) (
      .skip) (
      .exit 0))) (
    .seq (
     .block 1 (
      .reg none [⟨(some 12), none, .mv (.t 3)⟩,
        ⟨(some 13), none, .mv (.t 0)⟩,
        ⟨(some 14), none, .mv (.t 4)⟩,
        ⟨(some 15), none, .iad 2 (.t 13) (.t 14)⟩,
        ⟨(some 16), none, .fad 0 (.t 15)⟩,
        ⟨(some 17), none, .ld 1 false (.t 16)⟩,
        ⟨(some 18), none, .call 129 [(.t 12), (.t 17)]⟩,
        ⟨(some 3), none, .asn (.t 18)⟩])) (
    .reg none [⟨(some 10), none, .mv (.t 4)⟩,
      ⟨(some 11), none, .bin .add (.t 10) (.c (.int .i64 (1)))⟩,
      ⟨(some 4), none, .asn (.t 11)⟩])))))) (
 .seq (
  .reg none [⟨(some 19), none, .mv (.t 3)⟩,
    ⟨(some 2), none, .asn (.t 19)⟩]) (
 .ret))))
def r_spec_SetAlts : Nat × List RV := (20, [.t 2])

theorem c_spec_SetAlts : cmpS PT PF PA (Try.prog.funcs[77]?) = some (r_spec_SetAlts.1, r_spec_SetAlts.2, stripK k_spec_SetAlts) := by kernel_rfl

theorem h_spec_SetAlts (xs : List TConf) (hx : xs.length < 2 ^ 30) : CallsF Try.prog 77 [.one (.ar false 0 2 (xs.map sConf))] (.one (.ar true 3 1 ((setAlts xs).map rI))) := by
  refine Prun c_spec_SetAlts (by simp [r_spec_SetAlts]) (by simp) ?_
  unfold k_spec_SetAlts r_spec_SetAlts
  simp
  refine awp_loop (fun n σ => ∃ i : Nat, i ≤ xs.length ∧ n = xs.length - i ∧ σ = ⟨[(0, .one (.ar false 0 2 (xs.map sConf))), (3, .one (.vw 3 1 3 [] 0 (setAltsTo xs i).length)), (4, aI i)], [(3, ⟨3, 1, (setAltsTo xs i).map rI⟩)]⟩) xs.length ⟨0, by simp [setAltsTo, setAlts]⟩ ?_
  rintro n σ ⟨i, hi, rfl, rfl⟩
  have w1 : IntKind.i64.wrap ((i : Int) + 1) = i + 1 := wrapI (by omega) (by omega)
  have hl := setAltsTo_len xs hi
  by_cases h : i < xs.length
  · rcases ee : xs[i] with ⟨e1, e2⟩
    have hst := setAltsTo_step h
    rw [ee] at hst
    have hadd := h_spec_SetAdd (setAltsTo xs i) e1 (by omega)
    simp [h, ee, sConf]
    refine callG_F hadd (by simp) ?_
    simp
    refine ⟨xs.length - (i + 1), by omega, i + 1, by omega, rfl, ?_⟩
    simp [w1, hst]
  · have : i = xs.length := by omega
    subst this
    simp [setAltsTo_all]
-- 130 loop.example/g00485/impl.SetAlts
def k_impl_SetAlts : K :=
 .seq (
  .reg none [⟨(some 2), none, .asn (.c (.ar true 3 1 []))⟩]) (
 .seq (
  .reg none [⟨(some 3), none, .asn (.c (.ar true 3 1 []))⟩]) (
 .seq (
  .seq (
   .reg none [⟨(some 6), none, .mv (.t 0)⟩,
     ⟨(some 7), none, .len (.t 6)⟩,
     ⟨(some 8), none, .mv (.c (.int .i64 (0)))⟩]) (
  .block 0 (
   .loop (some ([3, 6, 7, 8], [0, 3, 1000])) (
    .seq (
     .reg none [⟨(some 9), none, .bin .lss (.t 8) (.t 7)⟩]) (
    .seq (
     .cond (.t 9) (
      .skip) (
      .exit 0)) (
    .seq (
     .block 1 (
      .seq (
       .reg none [⟨(some 10), none, .iad 2 (.t 6) (.t 8)⟩,
         ⟨(some 11), none, .ld 2 true (.t 10)⟩,
         ⟨(some 5), none, .alc 96 2 [(.int .i64 (0)), (.ar true 3 1 [])]⟩,
         ⟨none, none, .st 2 false (.t 5) (.t 11)⟩]) (
      .reg none [⟨(some 12), none, .mv (.t 3)⟩,
        ⟨(some 13), none, .fad 0 (.t 5)⟩,
        ⟨(some 14), none, .ld 1 false (.t 13)⟩,
        ⟨(some 15), none, .callo 162 1 [(.t 12), (.t 14)]⟩,
        ⟨(some 3), none, .asn (.t 15)⟩]))) (
    .reg none [⟨(some 16), none, .bin .add (.t 8) (.c (.int .i64 (1)))⟩,
      ⟨(some 8), none, .mv (.t 16)⟩]))))))) (
 .seq (
  .reg none [⟨(some 17), none, .mv (.t 3)⟩,
    ⟨(some 2), none, .asn (.t 17)⟩]) (
 .ret))))
def r_impl_SetAlts : Nat × List RV := (18, [.t 2])

theorem c_impl_SetAlts : cmpS PT PF PA (Try.prog.funcs[130]?) = some (r_impl_SetAlts.1, r_impl_SetAlts.2, stripK k_impl_SetAlts) := by kernel_rfl

theorem h_impl_SetAlts (xs : List TConf) (hx : xs.length < 2 ^ 30) : CallsF Try.prog 130 [.one (.ar false 0 2 (xs.map sConf))] (.one (.ar true 3 1 ((setAlts xs).map rI))) := by
  refine Prun c_impl_SetAlts (by simp [r_impl_SetAlts]) (by simp) ?_
  unfold k_impl_SetAlts r_impl_SetAlts
  simp
  refine awp_loop (fun n σ => ∃ i : Nat, i ≤ xs.length ∧ n = xs.length - i ∧ σ = ⟨[(3, .one (.vw 3 1 3 [] 0 (setAltsTo xs i).length)), (6, .one (.ar false 0 2 (xs.map sConf))), (7, aI xs.length), (8, aI i)], [(3, ⟨3, 1, (setAltsTo xs i).map rI⟩)]⟩) xs.length ⟨0, by simp [setAltsTo, setAlts]⟩ ?_
  rintro n σ ⟨i, hi, rfl, rfl⟩
  have w1 : IntKind.i64.wrap ((i : Int) + 1) = i + 1 := wrapI (by omega) (by omega)
  have hl := setAltsTo_len xs hi
  by_cases h : i < xs.length
  · rcases ee : xs[i] with ⟨e1, e2⟩
    have hst := setAltsTo_step h
    rw [ee] at hst
    have hadd := h_addTo (setAltsTo xs i) e1 (by omega)
    simp [h, ee, sConf]
    refine callOG_F hadd (by simp) ?_
    simp
    refine ⟨xs.length - (i + 1), by omega, i + 1, by omega, rfl, ?_⟩
    simp [w1, hst]
  · have : i = xs.length := by omega
    subst this
    simp [setAltsTo_all]
end Go.Am
-- mask
namespace Go.Am
open Go.Proofs
set_option maxHeartbeats 4000000
set_option maxRecDepth 100000
attribute [-simp] BitVec.toNat_or BitVec.toNat_and BitVec.toNat_ofInt
/-! Sets of numbers as bits; what grows comes to rest. -/
def iter {α : Type} (f : α → α) : Nat → α → α
  | 0, a => a
  | n + 1, a => f (iter f n a)
theorem iter_stable {α : Type} {f : α → α} {a : α} {m : Nat} (h : f (iter f m a) = iter f m a) : ∀ k, m ≤ k → iter f k a = iter f m a
  | 0, hk => by rw [show m = 0 from by omega]
  | k + 1, hk => by
    by_cases e : m = k + 1
    · rw [e]
    · have := iter_stable h k (by omega)
      simp only [iter, this, h]
/-- How many of the first n bits are set. -/
def pop (f : Nat) : Nat → Nat
  | 0 => 0
  | n + 1 => pop f n + (if f.testBit n then 1 else 0)
theorem pop_le (f : Nat) : ∀ n, pop f n ≤ n
  | 0 => Nat.le_refl _
  | n + 1 => by
    have := pop_le f n
    simp only [pop]; split <;> omega
def sub (f g : Nat) : Prop := ∀ i, f.testBit i = true → g.testBit i = true
theorem sub_refl (f : Nat) : sub f f := fun _ h => h
theorem sub_trans {f g h : Nat} (h1 : sub f g) (h2 : sub g h) : sub f h := fun i hi => h2 i (h1 i hi)
theorem pop_mono {f g : Nat} (h : sub f g) : ∀ n, pop f n ≤ pop g n
  | 0 => Nat.le_refl _
  | n + 1 => by
    have := pop_mono h n
    simp only [pop]
    by_cases hb : f.testBit n = true
    · rw [if_pos hb, if_pos (h n hb)]; omega
    · rw [if_neg hb]; split <;> omega
theorem pop_lt {f g : Nat} (h : sub f g) {n i : Nat} (hi : i < n) (hf : f.testBit i = false) (hg : g.testBit i = true) : pop f n < pop g n := by
  induction n with
  | zero => omega
  | succ n ih =>
    simp only [pop]
    by_cases e : i = n
    · subst e
      have := pop_mono h i
      rw [hf, hg]; simp; omega
    · have := ih (by omega)
      by_cases hb : f.testBit n = true
      · rw [if_pos hb, if_pos (h n hb)]; omega
      · rw [if_neg hb]; split <;> omega
theorem bit_lt {f n i : Nat} (hf : f < 2 ^ n) (h : f.testBit i = true) : i < n := by
  rcases Nat.lt_or_ge i n with h1 | h1
  · exact h1
  · have : f < 2 ^ i := Nat.lt_of_lt_of_le hf (Nat.pow_le_pow_right (by omega) h1)
    rw [Nat.testBit_lt_two_pow this] at h; cases h
theorem sub_ne {f g n : Nat} (h : sub f g) (hg : g < 2 ^ n) (hne : g ≠ f) : ∃ i, i < n ∧ f.testBit i = false ∧ g.testBit i = true := by
  apply Classical.byContradiction
  intro hc
  apply hne
  apply Nat.eq_of_testBit_eq
  intro i
  cases hb : g.testBit i with
  | true =>
    cases hf : f.testBit i with
    | true => rfl
    | false => exact (hc ⟨i, bit_lt hg hb, hf, hb⟩).elim
  | false =>
    cases hf : f.testBit i with
    | true => rw [h i hf] at hb; cases hb
    | false => rfl
/-- What grows within n bits has come to rest behind n rounds. -/
theorem grow_rest {p : Nat → Nat} {n a : Nat} (hs : ∀ f, f < 2 ^ n → sub f (p f)) (hb : ∀ f, f < 2 ^ n → p f < 2 ^ n) (ha : a < 2 ^ n) : p (iter p n a) = iter p n a := by
  have hlt : ∀ k, iter p k a < 2 ^ n := fun k => by
    induction k with
    | zero => exact ha
    | succ k ih => exact hb _ ih
  have key : ∀ k, (p (iter p k a) = iter p k a) ∨ k + 1 ≤ pop (iter p (k + 1) a) n := fun k => by
    induction k with
    | zero =>
      by_cases e : p (iter p 0 a) = iter p 0 a
      · exact .inl e
      · right
        obtain ⟨i, h1, h2, h3⟩ := sub_ne (hs _ (hlt 0)) (hlt 1) e
        have := pop_lt (hs _ (hlt 0)) h1 h2 h3
        simp only [iter] at this ⊢; omega
    | succ k ih =>
      rcases ih with e | ih
      · left; simp only [iter] at e ⊢; rw [e, e]
      by_cases e : p (iter p (k + 1) a) = iter p (k + 1) a
      · exact .inl e
      · right
        obtain ⟨i, h1, h2, h3⟩ := sub_ne (hs _ (hlt (k + 1))) (hlt (k + 2)) e
        have := pop_lt (hs _ (hlt (k + 1))) h1 h2 h3
        simp only [iter] at this ih ⊢; omega
  rcases key n with h | h
  · exact h
  · have := pop_le (iter p (n + 1) a) n; omega
/-! Sets of numbers below n as ascending lists -/
def bitsF (f : Nat) : Nat → List Int
  | 0 => []
  | n + 1 => bitsF f n ++ (if f.testBit n then [(n : Int)] else [])
theorem bitsF_len (f : Nat) : ∀ n, (bitsF f n).length = pop f n
  | 0 => rfl
  | n + 1 => by simp only [bitsF, pop, List.length_append, bitsF_len f n]; split <;> simp
theorem mem_bitsF {f : Nat} {x : Int} : ∀ {n : Nat}, x ∈ bitsF f n ↔ 0 ≤ x ∧ x < n ∧ f.testBit x.toNat = true
  | 0 => by simp [bitsF]; omega
  | n + 1 => by
    simp only [bitsF, List.mem_append, mem_bitsF (n := n)]
    by_cases hb : f.testBit n = true
    · rw [if_pos hb, List.mem_singleton]
      constructor
      · rintro (⟨h1, h2, h3⟩ | rfl)
        · exact ⟨h1, by omega, h3⟩
        · exact ⟨by omega, by omega, by simpa using hb⟩
      · rintro ⟨h1, h2, h3⟩
        by_cases e : x = n
        · exact .inr e
        · exact .inl ⟨h1, by omega, h3⟩
    · rw [if_neg hb]
      constructor
      · rintro (⟨h1, h2, h3⟩ | h)
        · exact ⟨h1, by omega, h3⟩
        · cases h
      · rintro ⟨h1, h2, h3⟩
        by_cases e : x = n
        · subst e; exact absurd (by simpa using h3) hb
        · exact .inl ⟨h1, by omega, h3⟩
theorem bitsF_congr {f g : Nat} : ∀ {n : Nat}, (∀ i, i < n → f.testBit i = g.testBit i) → bitsF f n = bitsF g n
  | 0, _ => rfl
  | n + 1, h => by rw [bitsF, bitsF, bitsF_congr fun i hi => h i (by omega), h n (by omega)]
theorem insAt_cons (y : Int) (r : List Int) (x : Int) : insAt (y :: r) x = if x < y then 0 else insAt r x + 1 := by
  unfold insAt
  rw [List.findIdx_cons]
  by_cases h : x < y <;> simp [h]
theorem insAt_app {x : Int} : ∀ {l t : List Int}, (∀ y ∈ t, x < y) → insAt (l ++ t) x = insAt l x
  | [], [], _ => rfl
  | [], y :: t, h => by
    rw [List.nil_append, insAt_cons, if_pos (h y (List.mem_cons_self ..))]; rfl
  | y :: l, t, h => by rw [List.cons_append, insAt_cons, insAt_cons, insAt_app h]
theorem insAt_end {x : Int} : ∀ {l : List Int}, (∀ y ∈ l, ¬ x < y) → insAt l x = l.length
  | [], _ => rfl
  | y :: l, h => by rw [insAt_cons, if_neg (h y (List.mem_cons_self ..)), insAt_end fun z hz => h z (List.mem_cons_of_mem _ hz)]; rfl
theorem insAt_bound (l : List Int) (x : Int) : insAt l x ≤ l.length := List.findIdx_le_length
theorem setAdd_app {x : Int} {l t : List Int} (h : ∀ y ∈ t, x < y) : setAdd (l ++ t) x = setAdd l x ++ t := by
  unfold setAdd
  have hx : x ∉ t := fun hm => by have := h x hm; omega
  by_cases hl : x ∈ l
  · rw [if_pos (List.mem_append_left _ hl), if_pos hl]
  · rw [if_neg (by simp [hl, hx]), if_neg hl, insAt_app h]
    have := insAt_bound l x
    rw [List.take_append_of_le_length this, List.drop_append_of_le_length this]
    simp
theorem setAdd_bitsF {f x : Nat} : ∀ {n : Nat}, x < n → setAdd (bitsF f n) x = bitsF (f ||| 2 ^ x) n
  | 0, h => by omega
  | n + 1, h => by
    by_cases e : x = n
    · subst e
      have hlow : bitsF (f ||| 2 ^ x) x = bitsF f x := bitsF_congr fun i hi => by
        rw [Nat.testBit_or, Nat.testBit_two_pow_of_ne (by omega), Bool.or_false]
      have hxb : (f ||| 2 ^ x).testBit x = true := by rw [Nat.testBit_or, Nat.testBit_two_pow_self, Bool.or_true]
      rw [bitsF, bitsF, hlow, hxb]
      by_cases hb : f.testBit x = true
      · rw [if_pos hb, if_pos rfl]
        unfold setAdd
        rw [if_pos (by simp)]
      · rw [if_neg hb, if_pos rfl, List.append_nil]
        unfold setAdd
        have hall : ∀ y ∈ bitsF f x, ¬ (x : Int) < y := fun y hy => by have := mem_bitsF.1 hy; omega
        rw [if_neg (fun hm => by have := mem_bitsF.1 hm; omega), insAt_end hall]
        simp
    · have hx : x < n := by omega
      have hn : (f ||| 2 ^ x).testBit n = f.testBit n := by rw [Nat.testBit_or, Nat.testBit_two_pow_of_ne (by omega), Bool.or_false]
      rw [bitsF, bitsF, hn, setAdd_app, setAdd_bitsF hx]
      intro y hy
      split at hy
      · rw [List.mem_singleton] at hy; omega
      · cases hy
/-- All numbers of a set joined to another one. -/
theorem join_bits {N : Nat} : ∀ (n : Nat) (f g : Nat), n ≤ N → (bitsF g n).foldl setAdd (bitsF f N) = bitsF (f ||| (g % 2 ^ n)) N
  | 0, f, g, _ => by simp [bitsF, Nat.mod_one]
  | n + 1, f, g, h => by
    rw [bitsF, List.foldl_append, join_bits n f g (by omega)]
    by_cases hb : g.testBit n = true
    · rw [if_pos hb, List.foldl_cons, List.foldl_nil, setAdd_bitsF (by omega)]
      apply bitsF_congr
      intro i hi
      simp only [Nat.testBit_or, Nat.testBit_mod_two_pow]
      by_cases e : i = n
      · subst e; simp [hb, Nat.testBit_two_pow_self]
      · rw [Nat.testBit_two_pow_of_ne (by omega)]
        by_cases h1 : i < n
        · simp [h1, show i < n + 1 by omega]
        · simp [h1, show ¬ i < n + 1 by omega]
    · rw [if_neg hb, List.foldl_nil]
      apply bitsF_congr
      intro i hi
      simp only [Nat.testBit_or, Nat.testBit_mod_two_pow]
      by_cases e : i = n
      · subst e; simp [Bool.eq_false_iff.2 hb]
      · by_cases h1 : i < n
        · simp [h1, show i < n + 1 by omega]
        · simp [h1, show ¬ i < n + 1 by omega]
theorem pop_full {f n : Nat} (hf : f < 2 ^ n) : pop f n = n ↔ f = 2 ^ n - 1 := by
  constructor
  · intro h
    apply Nat.eq_of_testBit_eq
    intro i
    rw [Nat.testBit_two_pow_sub_one]
    by_cases hi : i < n
    · rw [decide_eq_true hi]
      cases hb : f.testBit i with
      | true => rfl
      | false =>
        have hs : sub f (2 ^ n - 1) := fun j hj => by rw [Nat.testBit_two_pow_sub_one]; exact decide_eq_true (bit_lt hf hj)
        have := pop_lt hs hi hb (by rw [Nat.testBit_two_pow_sub_one]; exact decide_eq_true hi)
        have := pop_le (2 ^ n - 1) n
        omega
    · rw [decide_eq_false hi]
      exact Nat.testBit_lt_two_pow (Nat.lt_of_lt_of_le hf (Nat.pow_le_pow_right (by omega) (by omega)))
  · rintro rfl
    have : ∀ m, m ≤ n → pop (2 ^ n - 1) m = m := fun m => by
      induction m with
      | zero => intro _; rfl
      | succ m ih => intro h; rw [pop, ih (by omega), Nat.testBit_two_pow_sub_one, decide_eq_true (by omega : m < n)]; rfl
    exact this n (Nat.le_refl _)
end Go.Am
-- IntSS
namespace Go.Am
open Go.Proofs
set_option maxHeartbeats 4000000
set_option maxRecDepth 100000
attribute [-simp] BitVec.toNat_or BitVec.toNat_and BitVec.toNat_ofInt
attribute [-simp] rConf_len sConf_len shr_rConf shr_sConf shrs_rConf shrs_sConf noSh_rConf mConf_wr mConf_n
def rIS (a : List Int) : List C := [.ar true 3 1 (a.map rI)]
def sIS (a : List Int) : List C := [.ar false 0 1 (a.map rI)]
def zIS : List C := [.ar true 3 1 []]
@[simp] theorem rIS_len (a : List Int) : (rIS a).length = 1 := rfl
@[simp] theorem sIS_len (a : List Int) : (sIS a).length = 1 := rfl
@[simp] theorem shr_rIS (a : List Int) : shrRow (rIS a) = sIS a := by simp [rIS, sIS]
@[simp] theorem shr_sIS (a : List Int) : shrRow (sIS a) = sIS a := by simp [sIS]
@[simp] theorem shrs_rIS (xs : List (List Int)) : shrRows (xs.map rIS) = xs.map sIS := shrRows_of shr_rIS xs
@[simp] theorem shrs_sIS (xs : List (List Int)) : shrRows (xs.map sIS) = xs.map sIS := shrRows_of shr_sIS xs
@[simp] theorem noSh_rIS (xs : List (List Int)) : noShRows (xs.map rIS) = true := noSh_of (fun a => by simp [rIS]) xs
end Go.Am
-- IntSSS
namespace Go.Am
open Go.Proofs
set_option maxHeartbeats 4000000
set_option maxRecDepth 100000
attribute [-simp] BitVec.toNat_or BitVec.toNat_and BitVec.toNat_ofInt
attribute [-simp] rConf_len sConf_len shr_rConf shr_sConf shrs_rConf shrs_sConf noSh_rConf mConf_wr mConf_n
def rISS (a : List (List Int)) : List C := [.ar true 34 1 (a.map rIS)]
def sISS (a : List (List Int)) : List C := [.ar false 0 1 (a.map sIS)]
def zISS : List C := [.ar true 34 1 []]
@[simp] theorem rISS_len (a : List (List Int)) : (rISS a).length = 1 := rfl
@[simp] theorem sISS_len (a : List (List Int)) : (sISS a).length = 1 := rfl
@[simp] theorem shr_rISS (a : List (List Int)) : shrRow (rISS a) = sISS a := by simp [rISS, sISS]
@[simp] theorem shr_sISS (a : List (List Int)) : shrRow (sISS a) = sISS a := by simp [sISS]
@[simp] theorem shrs_rISS (xs : List (List (List Int))) : shrRows (xs.map rISS) = xs.map sISS := shrRows_of shr_rISS xs
@[simp] theorem shrs_sISS (xs : List (List (List Int))) : shrRows (xs.map sISS) = xs.map sISS := shrRows_of shr_sISS xs
@[simp] theorem noSh_rISS (xs : List (List (List Int))) : noShRows (xs.map rISS) = true := noSh_of (fun a => by simp [rISS]) xs
theorem of_IS (x : List C) (h : inShs [.l 1 [.i]] x) : ∃ a : List Int, x = sIS a ∧ lL l0 a := by
  simp only [inShs] at h
  obtain ⟨c0, r0, rfl, h0, rfl⟩ := h
  obtain ⟨n0, rfl, g0⟩ := of_sl of_int c0 h0
  exact ⟨n0, rfl, g0⟩
theorem of_ISS (x : List C) (h : inShs [.l 1 [.l 1 [.i]]] x) : ∃ a : List (List Int), x = sISS a ∧ lL (lL l0) a := by
  simp only [inShs] at h
  obtain ⟨c0, r0, rfl, h0, rfl⟩ := h
  obtain ⟨n0, rfl, g0⟩ := of_sl of_IS c0 h0
  exact ⟨n0, rfl, g0⟩
end Go.Am
-- Gram_y
namespace Go.Am
open Go.Proofs
set_option maxHeartbeats 4000000
set_option maxRecDepth 100000
attribute [-simp] BitVec.toNat_or BitVec.toNat_and BitVec.toNat_ofInt
attribute [-simp] rConf_len sConf_len shr_rConf shr_sConf shrs_rConf shrs_sConf noSh_rConf mConf_wr mConf_n
structure TGram where
  parts : List (List (List Int))
  deriving DecidableEq, Inhabited
def rGram (a : TGram) : List C := [.ar true 90 1 (a.parts.map rISS)]
def sGram (a : TGram) : List C := [.ar false 0 1 (a.parts.map sISS)]
def zGram : List C := [.ar true 90 1 []]
@[simp] theorem rGram_len (a : TGram) : (rGram a).length = 1 := rfl
@[simp] theorem sGram_len (a : TGram) : (sGram a).length = 1 := rfl
@[simp] theorem shr_rGram (a : TGram) : shrRow (rGram a) = sGram a := by simp [rGram, sGram]
@[simp] theorem shr_sGram (a : TGram) : shrRow (sGram a) = sGram a := by simp [sGram]
@[simp] theorem shrs_rGram (xs : List TGram) : shrRows (xs.map rGram) = xs.map sGram := shrRows_of shr_rGram xs
@[simp] theorem shrs_sGram (xs : List TGram) : shrRows (xs.map sGram) = xs.map sGram := shrRows_of shr_sGram xs
@[simp] theorem noSh_rGram (xs : List TGram) : noShRows (xs.map rGram) = true := noSh_of (fun a => by simp [rGram]) xs
def wGram (a : TGram) : Nat := wL (wL (wL w0)) a.parts
def lGram (a : TGram) : Prop := lL (lL (lL l0)) a.parts
def mGram : Mk TGram := ⟨fun a k => ⟨mI.L.L.mkL a.parts (k)⟩, fun a => mI.L.L.nL a.parts⟩
@[simp] theorem mGram_wr (a : TGram) (k : Int) : mGram.wr a k = ⟨mI.L.L.mkL a.parts (k)⟩ := rfl
@[simp] theorem mGram_n (a : TGram) : mGram.n a = mI.L.L.nL a.parts := rfl
end Go.Am
-- inr
namespace Go.Am
open Go.Proofs
set_option maxHeartbeats 4000000
set_option maxRecDepth 100000
attribute [-simp] BitVec.toNat_or BitVec.toNat_and BitVec.toNat_ofInt
attribute [-simp] rConf_len sConf_len shr_rConf shr_sConf shrs_rConf shrs_sConf noSh_rConf mConf_wr mConf_n rIS_len sIS_len shr_rIS shr_sIS shrs_rIS shrs_sIS noSh_rIS rISS_len sISS_len shr_rISS shr_sISS shrs_rISS shrs_sISS noSh_rISS rGram_len sGram_len shr_rGram shr_sGram shrs_rGram shrs_sGram noSh_rGram mGram_wr mGram_n
def inr (a lo hi : Int) : Bool := decide (lo ≤ a) && decide (a ≤ hi)
theorem inr_iff {a lo hi : Int} : inr a lo hi = true ↔ lo ≤ a ∧ a ≤ hi := by simp [inr]
-- 54 loop.example/g00485/spec.l1In
def k_spec_l1In : K :=
 .seq (
  .reg none [⟨(some 6), none, .asn (.c (.bool false))⟩]) (
 .seq (
  .reg none [⟨(some 7), none, .mv (.t 0)⟩,
    ⟨(some 8), none, .mv (.t 1)⟩,
    ⟨(some 9), none, .bin .geq (.t 7) (.t 8)⟩,
    ⟨(some 10), none, .mv (.t 9)⟩,
    ⟨(some 11), (some (10, true)), .mv (.t 0)⟩,
    ⟨(some 12), (some (10, true)), .mv (.t 2)⟩,
    ⟨(some 13), (some (10, true)), .bin .leq (.t 11) (.t 12)⟩,
    ⟨(some 14), none, .pick (.t 10) (.t 13) (.c (.bool false))⟩,
    ⟨(some 6), none, .asn (.t 14)⟩]) (
 .ret))
def r_spec_l1In : Nat × List RV := (15, [.t 6])

theorem c_spec_l1In : cmpS PT PF PA (Try.prog.funcs[54]?) = some (r_spec_l1In.1, r_spec_l1In.2, stripK k_spec_l1In) := by kernel_rfl

theorem h_spec_l1In (a lo hi : Int) : CallsF Try.prog 54 [aI a, aI lo, aI hi] (aB (inr a lo hi)) := by
  refine Prun c_spec_l1In (by simp [r_spec_l1In]) (by simp) ?_
  unfold k_spec_l1In r_spec_l1In
  by_cases h : lo ≤ a
  · simp [h, inr]
  · simp [h, inr]
-- 93 loop.example/g00485/impl.inRange
def k_impl_inRange : K :=
 .seq (
  .reg none [⟨(some 6), none, .asn (.c (.bool false))⟩]) (
 .seq (
  .reg none [⟨(some 7), none, .mv (.t 0)⟩,
    ⟨(some 8), none, .mv (.t 1)⟩,
    ⟨(some 9), none, .bin .geq (.t 7) (.t 8)⟩,
    ⟨(some 10), none, .mv (.t 9)⟩,
    ⟨(some 11), (some (10, true)), .mv (.t 0)⟩,
    ⟨(some 12), (some (10, true)), .mv (.t 2)⟩,
    ⟨(some 13), (some (10, true)), .bin .leq (.t 11) (.t 12)⟩,
    ⟨(some 14), none, .pick (.t 10) (.t 13) (.c (.bool false))⟩,
    ⟨(some 6), none, .asn (.t 14)⟩]) (
 .ret))
def r_impl_inRange : Nat × List RV := (15, [.t 6])

theorem c_impl_inRange : cmpS PT PF PA (Try.prog.funcs[93]?) = some (r_impl_inRange.1, r_impl_inRange.2, stripK k_impl_inRange) := by kernel_rfl

theorem h_impl_inRange (a lo hi : Int) : CallsF Try.prog 93 [aI a, aI lo, aI hi] (aB (inr a lo hi)) := by
  refine Prun c_impl_inRange (by simp [r_impl_inRange]) (by simp) ?_
  unfold k_impl_inRange r_impl_inRange
  by_cases h : lo ≤ a
  · simp [h, inr]
  · simp [h, inr]
end Go.Am
-- gramok
namespace Go.Am
open Go.Proofs
set_option maxHeartbeats 4000000
set_option maxRecDepth 100000
attribute [-simp] BitVec.toNat_or BitVec.toNat_and BitVec.toNat_ofInt
attribute [-simp] rConf_len sConf_len shr_rConf shr_sConf shrs_rConf shrs_sConf noSh_rConf mConf_wr mConf_n
theorem all_drop {α : Type} {p : α → Bool} {xs : List α} {i : Nat} (h : i < xs.length) : (xs.drop i).all p = (p xs[i] && (xs.drop (i + 1)).all p) := by
  rw [List.drop_eq_getElem_cons h, List.all_cons]
theorem all_end {α : Type} {p : α → Bool} {xs : List α} {i : Nat} (h : ¬ i < xs.length) : (xs.drop i).all p = true := by
  rw [List.drop_eq_nil_of_le (by omega), List.all_nil]
def symOk (n : Nat) (x : Int) : Bool := inr x 0 25 || inr x 100 (99 + n)
def rowOk (n : Nat) (row : List Int) : Bool := decide (row.length ≤ 8) && row.all (symOk n)
def altsOk (n : Nat) (alts : List (List Int)) : Bool := inr alts.length 1 8 && alts.all (rowOk n)
def gramOk (g : TGram) : Bool := inr g.parts.length 1 20 && g.parts.all (altsOk g.parts.length)
end Go.Am
-- checkm
namespace Go.Am
open Go.Proofs
set_option maxHeartbeats 4000000
set_option maxRecDepth 100000
attribute [-simp] BitVec.toNat_or BitVec.toNat_and BitVec.toNat_ofInt
/-! Walks over all alternatives of a grammar -/
def passP {α : Type} (step : Nat → List (List Int) → α → α) : Nat → List (List (List Int)) → α → α
  | _, [], a => a
  | k, al :: r, a => passP step (k + 1) r (step k al a)
theorem passP_drop {α : Type} {step : Nat → List (List Int) → α → α} {ps : List (List (List Int))} {i : Nat} {a : α} (h : i < ps.length) : passP step i (ps.drop i) a = passP step (i + 1) (ps.drop (i + 1)) (step i ps[i] a) := by
  rw [List.drop_eq_getElem_cons h, passP]
theorem passP_end {α : Type} {step : Nat → List (List Int) → α → α} {ps : List (List (List Int))} {i : Nat} {a : α} (h : ¬ i < ps.length) : passP step i (ps.drop i) a = a := by
  rw [List.drop_eq_nil_of_le (by omega), passP]
theorem foldl_drop {α β : Type} {f : α → β → α} {xs : List β} {i : Nat} {a : α} (h : i < xs.length) : (xs.drop i).foldl f a = (xs.drop (i + 1)).foldl f (f a xs[i]) := by
  rw [List.drop_eq_getElem_cons h, List.foldl_cons]
theorem foldl_end {α β : Type} {f : α → β → α} {xs : List β} {i : Nat} {a : α} (h : ¬ i < xs.length) : (xs.drop i).foldl f a = a := by
  rw [List.drop_eq_nil_of_le (by omega), List.foldl_nil]
theorem passP_ind {α : Type} {step : Nat → List (List Int) → α → α} {I : α → Prop} {R : α → α → Prop} (hr : ∀ a, I a → R a a) (ht : ∀ a b c, R a b → R b c → R a c) :
    ∀ {ps : List (List (List Int))} {k : Nat} {a : α}, (∀ j al a, k ≤ j → j < k + ps.length → al ∈ ps → I a → I (step j al a) ∧ R a (step j al a)) → I a → I (passP step k ps a) ∧ R a (passP step k ps a)
  | [], k, a, _, ha => ⟨ha, hr a ha⟩
  | al :: r, k, a, hs, ha => by
    obtain ⟨h1, h2⟩ := hs k al a (Nat.le_refl _) (by simp) (List.mem_cons_self ..) ha
    obtain ⟨h3, h4⟩ := passP_ind (k := k + 1) hr ht (ps := r) (fun j al' a' hj1 hj2 hm => hs j al' a' (by omega) (by simp at *; omega) (List.mem_cons_of_mem _ hm)) h1
    exact ⟨h3, ht _ _ _ h2 h4⟩
theorem foldl_ind {α β : Type} {f : α → β → α} {I : α → Prop} {R : α → α → Prop} (hr : ∀ a, I a → R a a) (ht : ∀ a b c, R a b → R b c → R a c) :
    ∀ {xs : List β} {a : α}, (∀ x a, x ∈ xs → I a → I (f a x) ∧ R a (f a x)) → I a → I (xs.foldl f a) ∧ R a (xs.foldl f a)
  | [], a, _, ha => ⟨ha, hr a ha⟩
  | x :: xs, a, hs, ha => by
    obtain ⟨h1, h2⟩ := hs x a (List.mem_cons_self ..) ha
    obtain ⟨h3, h4⟩ := foldl_ind hr ht (xs := xs) (fun y a' hm => hs y a' (List.mem_cons_of_mem _ hm)) h1
    exact ⟨h3, ht _ _ _ h2 h4⟩
/-- Two walks side by side. -/
theorem passP_rel {α β : Type} {s1 : Nat → List (List Int) → α → α} {s2 : Nat → List (List Int) → β → β} {Q : α → β → Prop} :
    ∀ {ps : List (List (List Int))} {k : Nat} {a : α} {b : β}, (∀ j al a b, k ≤ j → j < k + ps.length → al ∈ ps → Q a b → Q (s1 j al a) (s2 j al b)) → Q a b → Q (passP s1 k ps a) (passP s2 k ps b)
  | [], _, _, _, _, h => h
  | al :: r, k, a, b, hs, h => passP_rel (k := k + 1) (fun j al' a' b' hj1 hj2 hm => hs j al' a' b' (by omega) (by simp at *; omega) (List.mem_cons_of_mem _ hm)) (hs k al a b (Nat.le_refl _) (by simp) (List.mem_cons_self ..) h)
theorem foldl_rel {α β γ : Type} {f : α → γ → α} {g : β → γ → β} {Q : α → β → Prop} : ∀ {xs : List γ} {a : α} {b : β}, (∀ x a b, x ∈ xs → Q a b → Q (f a x) (g b x)) → Q a b → Q (xs.foldl f a) (xs.foldl g b)
  | [], _, _, _, h => h
  | x :: xs, a, b, hs, h => foldl_rel (xs := xs) (fun y a' b' hm => hs y a' b' (List.mem_cons_of_mem _ hm)) (hs x a b (List.mem_cons_self ..) h)

/-! What the sets are -/
def prt (x : Int) : Nat := (x - 100).toNat
/-- All symbols of a row are of parts in a set. -/
def nulIn (f : Nat) (row : List Int) : Bool := row.all (fun x => decide (100 ≤ x) && f.testBit (prt x))
def prdIn (f : Nat) (row : List Int) : Bool := row.all (fun x => decide (x < 100) || f.testBit (prt x))
def setP (p : Nat → List Int → Bool) (k : Nat) (al : List (List Int)) (f : Nat) : Nat := al.foldl (fun f row => if p f row = true then f ||| 2 ^ k else f) f
def rchRow (f : Nat) (row : List Int) : Nat := row.foldl (fun f x => if 100 ≤ x then f ||| 2 ^ prt x else f) f
def rchP (k : Nat) (al : List (List Int)) (f : Nat) : Nat := if f.testBit k = true then al.foldl rchRow f else f
def empties (ps : List (List (List Int))) : Nat := iter (passP (setP nulIn) 0 ps) (ps.length + 1) 0
def prods (ps : List (List (List Int))) : Nat := iter (passP (setP prdIn) 0 ps) (ps.length + 1) 0
def rchs (ps : List (List (List Int))) : Nat := iter (passP rchP 0 ps) (ps.length + 1) 1
/-- Part k begins with part x: with all that begins there. -/
def upd (v : List Nat) (k x : Nat) : List Nat := v.set k (v.getD k 0 ||| (2 ^ x ||| v.getD x 0))
def stRow (e k : Nat) : List Int → List Nat → List Nat
  | [], v => v
  | x :: r, v => if 100 ≤ x then (if e.testBit (prt x) = true then stRow e k r (upd v k (prt x)) else upd v k (prt x)) else v
def stP (e k : Nat) (al : List (List Int)) (v : List Nat) : List Nat := al.foldl (fun v row => stRow e k row v) v
def starts (ps : List (List (List Int))) : List Nat := iter (passP (stP (empties ps)) 0 ps) (ps.length + 1) (List.replicate ps.length 0)
def checkG (g : TGram) : Int :=
  if gramOk g = false then 1 else if (List.range g.parts.length).any (fun k => ((starts g.parts).getD k 0).testBit k) then 2 else
  if prods g.parts ≠ 2 ^ g.parts.length - 1 then 3 else if rchs g.parts ≠ 2 ^ g.parts.length - 1 then 4 else 0

/-! Symbols of a right grammar -/
def symsOk (n : Nat) (ps : List (List (List Int))) : Prop := ∀ al ∈ ps, ∀ row ∈ al, ∀ x ∈ row, 100 ≤ x → prt x < n
theorem or_lt {f n x : Nat} (hf : f < 2 ^ n) (hx : x < n) : f ||| 2 ^ x < 2 ^ n := Nat.or_lt_two_pow hf (Nat.pow_lt_pow_right (by omega) hx)
theorem sub_or (f g : Nat) : sub f (f ||| g) := fun i hi => by rw [Nat.testBit_or, hi, Bool.true_or]
def Grows (p : Nat → Nat) (n : Nat) : Prop := ∀ f, f < 2 ^ n → p f < 2 ^ n ∧ sub f (p f)
theorem setP_grows (p : Nat → List Int → Bool) {n k : Nat} (hk : k < n) (al : List (List Int)) : Grows (setP p k al) n := fun f hf =>
  foldl_ind (I := fun f => f < 2 ^ n) (R := sub) (fun a _ => sub_refl a) (fun _ _ _ => sub_trans) (fun row f _ hf => by
    by_cases h : p f row = true
    · simp only [h, if_true]; exact ⟨or_lt hf hk, sub_or _ _⟩
    · simp only [h, if_false]; exact ⟨hf, sub_refl _⟩) hf
theorem passP_grows {step : Nat → List (List Int) → Nat → Nat} {ps : List (List (List Int))} (h : ∀ k al, k < ps.length → al ∈ ps → Grows (step k al) ps.length) : Grows (passP step 0 ps) ps.length := fun f hf =>
  passP_ind (I := fun f => f < 2 ^ ps.length) (R := sub) (fun a _ => sub_refl a) (fun _ _ _ => sub_trans) (fun j al a _ hj hm ha => h j al (by omega) hm a ha) hf
theorem rchP_grows {n k : Nat} {al : List (List Int)} (hs : ∀ row ∈ al, ∀ x ∈ row, 100 ≤ x → prt x < n) : Grows (rchP k al) n := fun f hf => by
  unfold rchP
  split
  · exact foldl_ind (I := fun f => f < 2 ^ n) (R := sub) (fun a _ => sub_refl a) (fun _ _ _ => sub_trans) (fun row f hr hf =>
      foldl_ind (I := fun f => f < 2 ^ n) (R := sub) (fun a _ => sub_refl a) (fun _ _ _ => sub_trans) (fun x f hx hf => by
        by_cases h : 100 ≤ x
        · simp only [h, if_true]; exact ⟨or_lt hf (hs row hr x hx h), sub_or _ _⟩
        · simp only [h, if_false]; exact ⟨hf, sub_refl _⟩) hf) hf
  · exact ⟨hf, sub_refl _⟩
theorem grows_rest {p : Nat → Nat} {n a : Nat} (hg : Grows p n) (ha : a < 2 ^ n) : p (iter p n a) = iter p n a := grow_rest (fun f hf => (hg f hf).2) (fun f hf => (hg f hf).1) ha
theorem grows_iter {p : Nat → Nat} {n a : Nat} (hg : Grows p n) (ha : a < 2 ^ n) : ∀ k, iter p k a < 2 ^ n
  | 0 => ha
  | k + 1 => (hg _ (grows_iter hg ha k)).1
/-- Where it has come to rest, it is what it comes to. -/
theorem rest_eq {α : Type} {p : α → α} {n m : Nat} {a : α} (hn : p (iter p n a) = iter p n a) (hm : p (iter p m a) = iter p m a) : iter p m a = iter p (n + 1) a := by
  rcases Nat.le_total m (n + 1) with h | h
  · exact (iter_stable hm (n + 1) h).symm
  · rw [iter_stable hn m (by omega), iter_stable hn (n + 1) (by omega)]

/-! What begins with what, seen from its end: the column of m -/
def Col (n m : Nat) (v : List Nat) (c : Nat) : Prop := v.length = n ∧ c < 2 ^ n ∧ ∀ k, k < n → c.testBit k = (v.getD k 0).testBit m
def cUpd (m : Nat) (c k x : Nat) : Nat := if x = m ∨ c.testBit x = true then c ||| 2 ^ k else c
def cRow (e m k : Nat) : List Int → Nat → Nat
  | [], c => c
  | x :: r, c => if 100 ≤ x then (if e.testBit (prt x) = true then cRow e m k r (cUpd m c k (prt x)) else cUpd m c k (prt x)) else c
def cP (e m k : Nat) (al : List (List Int)) (c : Nat) : Nat := al.foldl (fun c row => cRow e m k row c) c
theorem getD_set {v : List Nat} {k j a : Nat} (hk : k < v.length) : (v.set k a).getD j 0 = if j = k then a else v.getD j 0 := by
  rw [List.getD_eq_getElem?_getD, List.getD_eq_getElem?_getD, List.getElem?_set]
  by_cases h : k = j
  · subst h; simp [hk]
  · simp [h, show ¬ j = k by omega]
theorem col_upd {n m k x c : Nat} {v : List Nat} (hk : k < n) (hx : x < n) (h : Col n m v c) : Col n m (upd v k x) (cUpd m c k x) := by
  obtain ⟨h1, h2, h3⟩ := h
  refine ⟨by simp [upd, h1], ?_, fun j hj => ?_⟩
  · unfold cUpd; split
    · exact or_lt h2 hk
    · exact h2
  · rw [upd, getD_set (by omega)]
    have hxm : ((2 ^ x).testBit m = true) ↔ x = m := by
      by_cases e : x = m
      · subst e; simp [Nat.testBit_two_pow_self]
      · simp [Nat.testBit_two_pow_of_ne e, e]
    unfold cUpd
    by_cases e : j = k
    · subst e
      rw [if_pos rfl, Nat.testBit_or, Nat.testBit_or, ← h3 j hj, ← h3 x hx]
      by_cases hc : x = m ∨ c.testBit x = true
      · rw [if_pos hc, Nat.testBit_or, Nat.testBit_two_pow_self, Bool.or_true]
        rcases hc with hc | hc
        · rw [hxm.2 hc]; simp
        · rw [hc]; simp
      · rw [if_neg hc]
        have a1 : (2 ^ x).testBit m = false := by cases hh : (2 ^ x).testBit m with
          | false => rfl
          | true => exact absurd (.inl (hxm.1 hh)) hc
        have a2 : c.testBit x = false := by cases hh : c.testBit x with
          | false => rfl
          | true => exact absurd (.inr hh) hc
        rw [a1, a2]; simp
    · rw [if_neg e, ← h3 j hj]
      split
      · rw [Nat.testBit_or, Nat.testBit_two_pow_of_ne (by omega), Bool.or_false]
      · rfl
theorem col_row {e n m k : Nat} (hk : k < n) : ∀ {row : List Int} {v : List Nat} {c : Nat}, (∀ x ∈ row, 100 ≤ x → prt x < n) → Col n m v c → Col n m (stRow e k row v) (cRow e m k row c)
  | [], _, _, _, h => h
  | x :: r, v, c, hs, h => by
    simp only [stRow, cRow]
    by_cases hx : 100 ≤ x
    · rw [if_pos hx, if_pos hx]
      have h2 := col_upd hk (hs x (List.mem_cons_self ..) hx) h
      split
      · exact col_row hk (fun y hy => hs y (List.mem_cons_of_mem _ hy)) h2
      · exact h2
    · rw [if_neg hx, if_neg hx]; exact h
theorem cUpd_grows {n m k x : Nat} (hk : k < n) : Grows (fun c => cUpd m c k x) n := fun c hc => by
  simp only [cUpd]; split
  · exact ⟨or_lt hc hk, sub_or _ _⟩
  · exact ⟨hc, sub_refl _⟩
theorem cRow_grows {e n m k : Nat} (hk : k < n) : ∀ row : List Int, Grows (cRow e m k row) n
  | [], f, hf => ⟨hf, sub_refl _⟩
  | x :: r, f, hf => by
    simp only [cRow]
    obtain ⟨h1, h2⟩ := cUpd_grows (m := m) (x := prt x) hk f hf
    split
    · split
      · obtain ⟨h3, h4⟩ := cRow_grows hk r _ h1
        exact ⟨h3, sub_trans h2 h4⟩
      · exact ⟨h1, h2⟩
    · exact ⟨hf, sub_refl _⟩
theorem iter_rel {α β : Type} {p : α → α} {q : β → β} {Q : α → β → Prop} (h : ∀ a b, Q a b → Q (p a) (q b)) {a : α} {b : β} (h0 : Q a b) : ∀ n, Q (iter p n a) (iter q n b)
  | 0 => h0
  | n + 1 => h _ _ (iter_rel h h0 n)
theorem starts_rest {e : Nat} {ps : List (List (List Int))} (hs : symsOk ps.length ps) :
    passP (stP e) 0 ps (iter (passP (stP e) 0 ps) ps.length (List.replicate ps.length 0)) = iter (passP (stP e) 0 ps) ps.length (List.replicate ps.length 0) := by
  have hcol : ∀ m v c, Col ps.length m v c → Col ps.length m (passP (stP e) 0 ps v) (passP (cP e m) 0 ps c) := fun m v c h =>
    passP_rel (Q := Col ps.length m) (fun j al v c _ hj hm h => foldl_rel (Q := Col ps.length m) (fun row v c hr h => col_row (by omega) (hs al hm row hr) h) h) h
  have hg : ∀ m, Grows (passP (cP e m) 0 ps) ps.length := fun m => passP_grows fun k al hk _ f hf =>
    foldl_ind (I := fun f => f < 2 ^ ps.length) (R := sub) (fun a _ => sub_refl a) (fun _ _ _ => sub_trans) (fun row f _ hf => cRow_grows hk row f hf) hf
  have h0 : ∀ m, Col ps.length m (List.replicate ps.length 0) 0 := fun m => ⟨by simp, Nat.two_pow_pos _, fun k hk => by simp [List.getD_eq_getElem?_getD, List.getElem?_replicate, hk]⟩
  have hit : ∀ m, Col ps.length m (iter (passP (stP e) 0 ps) ps.length (List.replicate ps.length 0)) (iter (passP (cP e m) 0 ps) ps.length 0) := fun m => iter_rel (hcol m) (h0 m) _
  apply List.ext_getElem
  · rw [(hcol 0 _ _ (hit 0)).1, (hit 0).1]
  · intro k h1 h2
    apply Nat.eq_of_testBit_eq
    intro m
    have hk : k < ps.length := by rw [(hit 0).1] at h2; exact h2
    have a1 := (hcol m _ _ (hit m)).2.2 k hk
    have a2 := (hit m).2.2 k hk
    rw [grows_rest (hg m) (Nat.two_pow_pos _)] at a1
    rw [a1] at a2
    rw [List.getD_eq_getElem?_getD, List.getD_eq_getElem?_getD, List.getElem?_eq_getElem h1, List.getElem?_eq_getElem h2] at a2
    exact a2
end Go.Am
-- clos
namespace Go.Am
open Go.Proofs
set_option maxHeartbeats 4000000
set_option maxRecDepth 100000
attribute [-simp] BitVec.toNat_or BitVec.toNat_and BitVec.toNat_ofInt
/-! The order of confs -/
theorem ordI_neg {a b : Int} : ordI a b = -ordI b a := by unfold ordI; split <;> (try split) <;> (try split) <;> omega
theorem ordI_cases (a b : Int) : (ordI a b = -1 ∧ a < b) ∨ (ordI a b = 0 ∧ a = b) ∨ (ordI a b = 1 ∧ b < a) := by unfold ordI; split <;> (try split) <;> omega
theorem ordL_neg : ∀ a b : List Int, ordL a b = -ordL b a
  | [], [] => rfl
  | [], _ :: _ => rfl
  | _ :: _, [] => rfl
  | a :: u, b :: v => by
    simp only [ordL]
    have h1 := ordI_neg (a := a) (b := b)
    by_cases h : ordI b a = 0
    · rw [if_pos h, if_pos (by omega), ordL_neg u v]
    · rw [if_neg h, if_neg (by omega), h1]
theorem ordL_trans : ∀ {a b c : List Int}, ordL a b < 0 → ordL b c < 0 → ordL a c < 0
  | [], [], _, h, _ => by simp [ordL] at h
  | [], _ :: _, [], _, h => by simp [ordL] at h
  | [], _ :: _, _ :: _, _, _ => by simp [ordL]
  | _ :: _, [], _, h, _ => by simp [ordL] at h
  | _ :: _, _ :: _, [], _, h => by simp [ordL] at h
  | a :: u, b :: v, c :: w, h, h2 => by
    simp only [ordL] at h h2 ⊢
    rcases ordI_cases a b with ⟨e1, l1⟩ | ⟨e1, l1⟩ | ⟨e1, l1⟩ <;> rcases ordI_cases b c with ⟨e2, l2⟩ | ⟨e2, l2⟩ | ⟨e2, l2⟩ <;> rcases ordI_cases a c with ⟨e3, l3⟩ | ⟨e3, l3⟩ | ⟨e3, l3⟩ <;> rw [e1] at h <;> rw [e2] at h2 <;> rw [e3] <;> simp at h h2 ⊢ <;> first | omega | exact ordL_trans h h2
theorem ordC_val (a b : TConf) : ordC a b = if ordI a.alt b.alt = 0 then ordL a.row b.row else ordI a.alt b.alt := by
  unfold ordC orI
  by_cases h : ordI a.alt b.alt = 0
  · rw [if_pos h, if_pos h]
    unfold orI
    by_cases h2 : ordL a.row b.row = 0
    · rw [if_pos h2, h2]; rfl
    · rw [if_neg h2]
  · rw [if_neg h, if_neg h]
theorem ordC_neg (a b : TConf) : ordC a b = -ordC b a := by
  rw [ordC_val, ordC_val]
  have h1 := ordI_neg (a := a.alt) (b := b.alt)
  by_cases h : ordI b.alt a.alt = 0
  · rw [if_pos h, if_pos (by omega), ordL_neg]
  · rw [if_neg h, if_neg (by omega), h1]
theorem ordC_trans {a b c : TConf} (h : ordC a b < 0) (h2 : ordC b c < 0) : ordC a c < 0 := by
  rw [ordC_val] at h h2 ⊢
  rcases ordI_cases a.alt b.alt with ⟨e1, l1⟩ | ⟨e1, l1⟩ | ⟨e1, l1⟩ <;> rcases ordI_cases b.alt c.alt with ⟨e2, l2⟩ | ⟨e2, l2⟩ | ⟨e2, l2⟩ <;> rcases ordI_cases a.alt c.alt with ⟨e3, l3⟩ | ⟨e3, l3⟩ | ⟨e3, l3⟩ <;> rw [e1] at h <;> rw [e2] at h2 <;> rw [e3] <;> simp at h h2 ⊢ <;> first | omega | exact ordL_trans h h2
def srtC (l : List TConf) : Prop := l.Pairwise fun a b => ordC a b < 0
theorem srt_nodup {l : List TConf} (h : srtC l) : l.Nodup := h.imp fun hab => by
  rintro rfl
  rw [ordC_eq.2 rfl] at hab; omega
theorem srt_ext : ∀ {l m : List TConf}, srtC l → srtC m → (∀ x, x ∈ l ↔ x ∈ m) → l = m
  | [], [], _, _, _ => rfl
  | [], y :: m, _, _, h => by have := (h y).2 (List.mem_cons_self ..); cases this
  | x :: l, [], _, _, h => by have := (h x).1 (List.mem_cons_self ..); cases this
  | x :: l, y :: m, hl, hm, h => by
    have hl' := List.pairwise_cons.1 hl
    have hm' := List.pairwise_cons.1 hm
    have hxy : x = y := by
      rcases List.mem_cons.1 ((h x).1 (List.mem_cons_self ..)) with e | e
      · exact e
      · rcases List.mem_cons.1 ((h y).2 (List.mem_cons_self ..)) with e2 | e2
        · exact e2.symm
        · have h1 := hm'.1 x e
          have h2 := hl'.1 y e2
          have := ordC_neg x y
          omega
    subst hxy
    congr 1
    refine srt_ext hl'.2 hm'.2 fun z => ?_
    have hz := h z
    have ne1 : ∀ {k : List TConf}, (∀ b ∈ k, ordC x b < 0) → x ∉ k := fun hk hx => by
      have := hk x hx
      rw [ordC_eq.2 rfl] at this; omega
    constructor
    · intro hzl
      rcases List.mem_cons.1 (hz.1 (List.mem_cons_of_mem _ hzl)) with e | e
      · subst e; exact absurd hzl (ne1 hl'.1)
      · exact e
    · intro hzm
      rcases List.mem_cons.1 (hz.2 (List.mem_cons_of_mem _ hzm)) with e | e
      · subst e; exact absurd hzm (ne1 hm'.1)
      · exact e
/-- The first place where something greater stands. -/
def atC (l : List TConf) (x : TConf) : Nat := l.findIdx (fun y => decide (0 < ordC y x))
def putC (l : List TConf) (x : TConf) : List TConf := if x ∈ l then l else l.take (atC l x) ++ [x] ++ l.drop (atC l x)
theorem atC_le (l : List TConf) (x : TConf) : atC l x ≤ l.length := List.findIdx_le_length
theorem atC_cons (y : TConf) (r : List TConf) (x : TConf) : atC (y :: r) x = if 0 < ordC y x then 0 else atC r x + 1 := by
  unfold atC
  rw [List.findIdx_cons]
  by_cases h : 0 < ordC y x <;> simp [h]
theorem mem_putC {l : List TConf} {x z : TConf} : z ∈ putC l x ↔ z ∈ l ∨ z = x := by
  unfold putC
  split
  · rename_i h
    constructor
    · exact .inl
    · rintro (h1 | rfl)
      · exact h1
      · exact h
  · have : z ∈ l ↔ z ∈ l.take (atC l x) ∨ z ∈ l.drop (atC l x) := by rw [← List.mem_append, List.take_append_drop]
    simp only [List.mem_append, List.mem_singleton, this]
    constructor
    · rintro ((h | h) | h)
      · exact .inl (.inl h)
      · exact .inr h
      · exact .inl (.inr h)
    · rintro ((h | h) | h)
      · exact .inl (.inl h)
      · exact .inr h
      · exact .inl (.inr h)
theorem putC_len {l : List TConf} {x : TConf} : (putC l x).length = if x ∈ l then l.length else l.length + 1 := by
  unfold putC
  split
  · rfl
  · have := atC_le l x
    simp; omega
theorem srt_putC : ∀ {l : List TConf} {x : TConf}, srtC l → srtC (putC l x) := by
  intro l x h
  unfold putC
  split
  · exact h
  rename_i hx
  induction l with
  | nil => simp [srtC, atC]
  | cons y r ih =>
    have h' := List.pairwise_cons.1 h
    have hne : y ≠ x := fun e => hx (by rw [e]; exact List.mem_cons_self ..)
    have hxr : x ∉ r := fun e => hx (List.mem_cons_of_mem _ e)
    rw [atC_cons]
    by_cases c : 0 < ordC y x
    · rw [if_pos c]
      simp only [List.take_zero, List.nil_append, List.drop_zero, List.singleton_append]
      have hxy : ordC x y < 0 := by rw [ordC_neg]; omega
      refine List.pairwise_cons.2 ⟨fun z hz => ?_, h⟩
      rcases List.mem_cons.1 hz with rfl | hz
      · exact hxy
      · exact ordC_trans hxy (h'.1 z hz)
    · rw [if_neg c]
      simp only [List.take_succ_cons, List.drop_succ_cons, List.cons_append]
      have hyx : ordC y x < 0 := by
        have : ordC y x ≠ 0 := fun e => hne (ordC_eq.1 e)
        omega
      refine List.pairwise_cons.2 ⟨fun z hz => ?_, ih h'.2 hxr⟩
      have : z ∈ r ∨ z = x := by
        have hm : z ∈ putC r x := by unfold putC; rw [if_neg hxr]; exact hz
        exact mem_putC.1 hm
      rcases this with hz | rfl
      · exact h'.1 z hz
      · exact hyx
theorem sub_len : ∀ {l m : List TConf}, l.Nodup → (∀ x ∈ l, x ∈ m) → l.length ≤ m.length
  | [], _, _, _ => Nat.zero_le _
  | x :: l, m, hl, h => by
    have hx := h x (List.mem_cons_self ..)
    have hn := List.nodup_cons.1 hl
    have := sub_len (m := m.erase x) hn.2 fun y hy => (List.mem_erase_of_ne (fun (e : y = x) => hn.1 (e ▸ hy))).2 (h y (List.mem_cons_of_mem _ hy))
    rw [List.length_erase_of_mem hx] at this
    have := List.length_pos_of_mem hx
    simp; omega
/-! What is closed out of confs -/
abbrev Parts := List (List (List Int))
def opn (c : TConf) : Bool := match c.row with
  | [] => false
  | x :: _ => decide (100 ≤ x)
def kids (ps : Parts) (c : TConf) : List TConf := match c.row with
  | [] => []
  | x :: r => (ps.getD (prt x) []).map fun alt => ⟨c.alt, alt ++ r⟩
inductive Rch (ps : Parts) (init : List TConf) : TConf → Prop
  | base {c} : c ∈ init → Rch ps init c
  | step {c k} : Rch ps init c → opn c = true → k ∈ kids ps c → Rch ps init k
theorem Rch.mono {ps : Parts} {i j : List TConf} (h : ∀ c ∈ i, c ∈ j) {c : TConf} (hc : Rch ps i c) : Rch ps j c := by
  induction hc with
  | base hc => exact .base (h _ hc)
  | step _ ho hk ih => exact .step ih ho hk
/-- A closing under way: what is in it comes from 'init'. -/
structure Snd (ps : Parts) (init S W : List TConf) : Prop where
  ss : srtC S
  sw : srtC W
  rs : ∀ x ∈ S, Rch ps init x ∧ opn x = false
  rw' : ∀ x ∈ W, Rch ps init x ∧ opn x = true
theorem Snd.mono {ps : Parts} {i j S W : List TConf} (h : ∀ c ∈ i, c ∈ j) (hs : Snd ps i S W) : Snd ps j S W :=
  ⟨hs.ss, hs.sw, fun x hx => ⟨(hs.rs x hx).1.mono h, (hs.rs x hx).2⟩, fun x hx => ⟨(hs.rw' x hx).1.mono h, (hs.rw' x hx).2⟩⟩
theorem Snd.putS {ps : Parts} {i S W : List TConf} {c : TConf} (hs : Snd ps i S W) (hc : Rch ps i c) (ho : opn c = false) : Snd ps i (putC S c) W :=
  ⟨srt_putC hs.ss, hs.sw, fun x hx => (mem_putC.1 hx).elim (hs.rs x) fun e => e ▸ ⟨hc, ho⟩, hs.rw'⟩
theorem Snd.putW {ps : Parts} {i S W : List TConf} {c : TConf} (hs : Snd ps i S W) (hc : Rch ps i c) (ho : opn c = true) : Snd ps i S (putC W c) :=
  ⟨hs.ss, srt_putC hs.sw, hs.rs, fun x hx => (mem_putC.1 hx).elim (hs.rw' x) fun e => e ▸ ⟨hc, ho⟩⟩
/-- All is closed. -/
structure Done (ps : Parts) (init S W : List TConf) : Prop extends Snd ps init S W where
  ls : S.length ≤ 30
  lw : W.length ≤ 200
  all : ∀ x, Rch ps init x → x.row.length ≤ 200 ∧ (x ∈ S ∨ x ∈ W)
theorem Done.uniq {ps : Parts} {i S W S' W' : List TConf} (h : Done ps i S W) (h' : Done ps i S' W') : S = S' := by
  refine srt_ext h.ss h'.ss fun x => ⟨fun hx => ?_, fun hx => ?_⟩
  · rcases (h'.all x (h.rs x hx).1).2 with h1 | h1
    · exact h1
    · have h2 := (h'.rw' x h1).2; rw [(h.rs x hx).2] at h2; cases h2
  · rcases (h.all x (h'.rs x hx).1).2 with h1 | h1
    · exact h1
    · have h2 := (h.rw' x h1).2; rw [(h'.rs x hx).2] at h2; cases h2
open Classical in
noncomputable def closO (ps : Parts) (init : List TConf) : Option (List TConf) := if h : ∃ S, ∃ W, Done ps init S W then some h.choose else none
theorem closO_some {ps : Parts} {i S W : List TConf} (h : Done ps i S W) : closO ps i = some S := by
  unfold closO
  have hx : ∃ S, ∃ W, Done ps i S W := ⟨S, W, h⟩
  rw [dif_pos hx]
  obtain ⟨W', h'⟩ := hx.choose_spec
  rw [h'.uniq h]
/-- It is too great. -/
def Much (ps : Parts) (init S W : List TConf) : Prop := (∃ x, Rch ps init x ∧ 200 < x.row.length) ∨ (Snd ps init S W ∧ (30 < S.length ∨ 200 < W.length))
theorem Much.mono {ps : Parts} {i j S W : List TConf} (h : ∀ c ∈ i, c ∈ j) : Much ps i S W → Much ps j S W
  | .inl ⟨x, hx, hl⟩ => .inl ⟨x, hx.mono h, hl⟩
  | .inr ⟨hs, hl⟩ => .inr ⟨hs.mono h, hl⟩
theorem closO_none {ps : Parts} {i S W : List TConf} (h : Much ps i S W) : closO ps i = none := by
  unfold closO
  rw [dif_neg]
  rintro ⟨S', W', hd⟩
  rcases h with ⟨x, hx, hl⟩ | ⟨hs, hl⟩
  · have := (hd.all x hx).1; omega
  · rcases hl with hl | hl
    · have := sub_len (srt_nodup hs.ss) fun x hx => by
        rcases (hd.all x (hs.rs x hx).1).2 with h1 | h1
        · exact h1
        · have h2 := (hd.rw' x h1).2; rw [(hs.rs x hx).2] at h2; cases h2
      have := hd.ls; omega
    · have := sub_len (srt_nodup hs.sw) fun x hx => by
        rcases (hd.all x (hs.rw' x hx).1).2 with h1 | h1
        · have h2 := (hd.rs x h1).2; rw [(hs.rw' x hx).2] at h2; cases h2
        · exact h1
      have := hd.lw; omega
/-- What came so far is closed, but for what still waits. -/
structure Part (ps : Parts) (init wait S W : List TConf) : Prop extends Snd ps init S W where
  ls : S.length ≤ 30
  lw : W.length ≤ 200
  lr : ∀ x, x ∈ S ∨ x ∈ W → x.row.length ≤ 200
  ini : ∀ x ∈ init, x ∈ S ∨ x ∈ W ∨ x ∈ wait
  kid : ∀ x ∈ W, ∀ k ∈ kids ps x, k ∈ S ∨ k ∈ W ∨ k ∈ wait
  rwt : ∀ x ∈ wait, Rch ps init x
theorem Part.done {ps : Parts} {i S W : List TConf} (h : Part ps i [] S W) : Done ps i S W := by
  refine { toSnd := h.toSnd, ls := h.ls, lw := h.lw, all := fun x hx => ?_ }
  have key : x ∈ S ∨ x ∈ W := by
    induction hx with
    | base hc => rcases h.ini _ hc with h1 | h1 | h1
                 · exact .inl h1
                 · exact .inr h1
                 · cases h1
    | @step c k _ ho hk ih =>
      rcases ih with h1 | h1
      · have := (h.rs c h1).2; rw [ho] at this; cases this
      · rcases h.kid c h1 k hk with h2 | h2 | h2
        · exact .inl h2
        · exact .inr h2
        · cases h2
  exact ⟨h.lr x key, key⟩
theorem Part.nil {ps : Parts} : Part ps [] [] [] [] where
  ss := List.Pairwise.nil
  sw := List.Pairwise.nil
  rs := fun x h => by cases h
  rw' := fun x h => by cases h
  ls := by simp
  lw := by simp
  lr := fun x h => by rcases h with h | h <;> cases h
  ini := fun x h => by cases h
  kid := fun x h => by cases h
  rwt := fun x h => by cases h
/-- One more is to be closed. -/
theorem Part.next {ps : Parts} {i S W : List TConf} (c : TConf) (h : Part ps i [] S W) : Part ps (i ++ [c]) [c] S W where
  toSnd := h.toSnd.mono fun x hx => List.mem_append_left _ hx
  ls := h.ls
  lw := h.lw
  lr := h.lr
  ini := fun x hx => by
    rcases List.mem_append.1 hx with hx | hx
    · rcases h.ini x hx with h1 | h1 | h1
      · exact .inl h1
      · exact .inr (.inl h1)
      · cases h1
    · exact .inr (.inr hx)
  kid := fun x hx k hk => by
    rcases h.kid x hx k hk with h1 | h1 | h1
    · exact .inl h1
    · exact .inr (.inl h1)
    · cases h1
  rwt := fun x hx => .base (List.mem_append_right _ hx)
/-- A step: the last one that waits. -/
theorem Part.stepS {ps : Parts} {i st S W : List TConf} {c : TConf} (h : Part ps i (st ++ [c]) S W) (ho : opn c = false) (hl : c.row.length ≤ 200) (hb : (putC S c).length ≤ 30) : Part ps i st (putC S c) W where
  toSnd := h.toSnd.putS (h.rwt c (by simp)) ho
  ls := hb
  lw := h.lw
  lr := fun x hx => by
    rcases hx with hx | hx
    · rcases mem_putC.1 hx with hx | rfl
      · exact h.lr x (.inl hx)
      · exact hl
    · exact h.lr x (.inr hx)
  ini := fun x hx => by
    rcases h.ini x hx with h1 | h1 | h1
    · exact .inl (mem_putC.2 (.inl h1))
    · exact .inr (.inl h1)
    · rcases List.mem_append.1 h1 with h1 | h1
      · exact .inr (.inr h1)
      · exact .inl (mem_putC.2 (.inr (by simpa using h1)))
  kid := fun x hx k hk => by
    rcases h.kid x hx k hk with h1 | h1 | h1
    · exact .inl (mem_putC.2 (.inl h1))
    · exact .inr (.inl h1)
    · rcases List.mem_append.1 h1 with h1 | h1
      · exact .inr (.inr h1)
      · exact .inl (mem_putC.2 (.inr (by simpa using h1)))
  rwt := fun x hx => h.rwt x (List.mem_append_left _ hx)
theorem Part.stepOld {ps : Parts} {i st S W : List TConf} {c : TConf} (h : Part ps i (st ++ [c]) S W) (hc : c ∈ W) : Part ps i st S W where
  toSnd := h.toSnd
  ls := h.ls
  lw := h.lw
  lr := h.lr
  ini := fun x hx => by
    rcases h.ini x hx with h1 | h1 | h1
    · exact .inl h1
    · exact .inr (.inl h1)
    · rcases List.mem_append.1 h1 with h1 | h1
      · exact .inr (.inr h1)
      · have : x = c := by simpa using h1
        subst this; exact .inr (.inl hc)
  kid := fun x hx k hk => by
    rcases h.kid x hx k hk with h1 | h1 | h1
    · exact .inl h1
    · exact .inr (.inl h1)
    · rcases List.mem_append.1 h1 with h1 | h1
      · exact .inr (.inr h1)
      · have : k = c := by simpa using h1
        subst this; exact .inr (.inl hc)
  rwt := fun x hx => h.rwt x (List.mem_append_left _ hx)
theorem Part.stepW {ps : Parts} {i st S W : List TConf} {c : TConf} (h : Part ps i (st ++ [c]) S W) (ho : opn c = true) (hl : c.row.length ≤ 200) (hb : (putC W c).length ≤ 200) : Part ps i (st ++ kids ps c) S (putC W c) where
  toSnd := h.toSnd.putW (h.rwt c (by simp)) ho
  ls := h.ls
  lw := hb
  lr := fun x hx => by
    rcases hx with hx | hx
    · exact h.lr x (.inl hx)
    · rcases mem_putC.1 hx with hx | rfl
      · exact h.lr x (.inr hx)
      · exact hl
  ini := fun x hx => by
    rcases h.ini x hx with h1 | h1 | h1
    · exact .inl h1
    · exact .inr (.inl (mem_putC.2 (.inl h1)))
    · rcases List.mem_append.1 h1 with h1 | h1
      · exact .inr (.inr (List.mem_append_left _ h1))
      · exact .inr (.inl (mem_putC.2 (.inr (by simpa using h1))))
  kid := fun x hx k hk => by
    rcases mem_putC.1 hx with hx | rfl
    · rcases h.kid x hx k hk with h1 | h1 | h1
      · exact .inl h1
      · exact .inr (.inl (mem_putC.2 (.inl h1)))
      · rcases List.mem_append.1 h1 with h1 | h1
        · exact .inr (.inr (List.mem_append_left _ h1))
        · exact .inr (.inl (mem_putC.2 (.inr (by simpa using h1))))
    · exact .inr (.inr (List.mem_append_right _ hk))
  rwt := fun x hx => by
    rcases List.mem_append.1 hx with hx | hx
    · exact h.rwt x (List.mem_append_left _ hx)
    · exact .step (h.rwt c (by simp)) ho hx
end Go.Am
-- InputOk
namespace Go.Am
open Go.Proofs
set_option maxHeartbeats 4000000
set_option maxRecDepth 100000
attribute [-simp] BitVec.toNat_or BitVec.toNat_and BitVec.toNat_ofInt
attribute [-simp] rConf_len sConf_len shr_rConf shr_sConf shrs_rConf shrs_sConf noSh_rConf mConf_wr mConf_n rIS_len sIS_len shr_rIS shr_sIS shrs_rIS shrs_sIS noSh_rIS rISS_len sISS_len shr_rISS shr_sISS shrs_rISS shrs_sISS noSh_rISS rGram_len sGram_len shr_rGram shr_sGram shrs_rGram shrs_sGram noSh_rGram mGram_wr mGram_n
def inputOk (w : List Int) : Bool := decide (w.length ≤ 10) && w.all (fun x => inr x 0 25)
-- 76 loop.example/g00485/spec.InputOk
def k_spec_InputOk : K :=
 .seq (
  .reg none [⟨(some 2), none, .asn (.c (.bool false))⟩]) (
 .seq (
  .seq (
   .reg none [⟨(some 4), none, .mv (.t 0)⟩,
     ⟨(some 5), none, .len (.t 4)⟩,
     ⟨(some 6), none, .bin .gtr (.t 5) (.c (.int .i64 (10)))⟩]) (
  .cond (.t 6) (
   .seq (
    .reg none [⟨(some 2), none, .asn (.c (.bool false))⟩]) (
   .ret)) (
   .skip))) (
 .seq (
  .seq (
   .reg none [⟨(some 3), none, .asn (.c (.int .i64 (0)))⟩]) (
  .block 0 (
   .loop (some ([0, 3], [0, 3, 1000])) (
    .seq (
     .seq (
      .reg none [⟨(some 7), none, .mv (.t 3)⟩,
        ⟨(some 8), none, .mv (.t 0)⟩,
        ⟨(some 9), none, .len (.t 8)⟩,
        ⟨(some 10), none, .bin .lss (.t 7) (.t 9)⟩]) (
     .cond (.t 10) (
      .skip) (
      .exit 0))) (
    .seq (
     .block 1 (
      .seq (
       .reg none [⟨(some 13), none, .mv (.t 0)⟩,
         ⟨(some 14), none, .mv (.t 3)⟩,
         ⟨(some 15), none, .iad 1 (.t 13) (.t 14)⟩,
         ⟨(some 16), none, .ld 1 false (.t 15)⟩,
         ⟨(some 17), none, .call 54 [(.t 16), (.c (.int .i64 (0))), (.c (.int .i64 (25)))]⟩,
         ⟨(some 18), none, .not (.t 17)⟩]) (
      .cond (.t 18) (
       .seq (
        .reg none [⟨(some 2), none, .asn (.c (.bool false))⟩]) (
       .ret)) (
       .skip)))) (
    .reg none [⟨(some 11), none, .mv (.t 3)⟩,
      ⟨(some 12), none, .bin .add (.t 11) (.c (.int .i64 (1)))⟩,
      ⟨(some 3), none, .asn (.t 12)⟩])))))) (
 .seq (
  .reg none [⟨(some 2), none, .asn (.c (.bool true))⟩]) (
 .ret))))
def r_spec_InputOk : Nat × List RV := (19, [.t 2])

theorem c_spec_InputOk : cmpS PT PF PA (Try.prog.funcs[76]?) = some (r_spec_InputOk.1, r_spec_InputOk.2, stripK k_spec_InputOk) := by kernel_rfl

theorem h_spec_InputOk (w : List Int) : CallsF Try.prog 76 [.one (.ar false 0 1 (w.map rI))] (aB (inputOk w)) := by
  refine Prun c_spec_InputOk (by simp [r_spec_InputOk]) (by simp) ?_
  unfold k_spec_InputOk r_spec_InputOk
  by_cases g : (10 : Int) < (w.length : Int)
  · have : ¬ w.length ≤ 10 := by omega
    simp [g, inputOk, this]
  have g' : w.length ≤ 10 := by omega
  simp [g]
  refine awp_loop (fun n σ => ∃ i : Nat, i ≤ w.length ∧ n = w.length - i ∧ allTo (fun x => inr x 0 25) w i = true ∧ σ = ⟨[(0, .one (.ar false 0 1 (w.map rI))), (3, aI i)], []⟩) w.length ⟨0, by simp [allTo_zero]⟩ ?_
  rintro n σ ⟨i, hi, rfl, ha, rfl⟩
  by_cases h : i < w.length
  · have hs := allTo_step (p := fun x => inr x 0 25) h
    simp [h]
    refine callG_F (h_spec_l1In _ _ _) (by simp) ?_
    cases c : inr w[i] 0 25
    · have := all_ff (p := fun x => inr x 0 25) h c
      simp [c, inputOk, this]
    · simp [c]
      refine ⟨w.length - (i + 1), by omega, i + 1, by omega, rfl, by rw [hs, ha, c]; rfl, ?_⟩
      rw [wrapI (by omega) (by omega)]
      simp
  · have : i = w.length := by omega
    subst this
    rw [allTo_all] at ha
    simp [inputOk, ha, g']
-- 128 loop.example/g00485/impl.isLetter
def k_impl_isLetter : K :=
 .seq (
  .reg none [⟨(some 2), none, .asn (.c (.bool false))⟩]) (
 .seq (
  .reg none [⟨(some 3), none, .mv (.t 0)⟩,
    ⟨(some 4), none, .call 93 [(.t 3), (.c (.int .i64 (0))), (.c (.int .i64 (25)))]⟩,
    ⟨(some 2), none, .asn (.t 4)⟩]) (
 .ret))
def r_impl_isLetter : Nat × List RV := (5, [.t 2])

theorem c_impl_isLetter : cmpS PT PF PA (Try.prog.funcs[128]?) = some (r_impl_isLetter.1, r_impl_isLetter.2, stripK k_impl_isLetter) := by kernel_rfl

theorem h_isLetter (a : Int) : CallsF Try.prog 128 [aI a] (aB (inr a 0 25)) := by
  refine Prun c_impl_isLetter (by simp [r_impl_isLetter]) (by simp) ?_
  unfold k_impl_isLetter r_impl_isLetter
  simp
  refine callG_F (h_impl_inRange _ _ _) (by simp) ?_
  simp
-- 96 loop.example/g00485/impl.InputOk
def k_impl_InputOk : K :=
 .seq (
  .reg none [⟨(some 2), none, .asn (.c (.bool false))⟩]) (
 .seq (
  .seq (
   .reg none [⟨(some 5), none, .mv (.t 0)⟩,
     ⟨(some 6), none, .len (.t 5)⟩,
     ⟨(some 7), none, .mv (.c (.int .i64 (0)))⟩]) (
  .block 0 (
   .loop (some ([0, 5, 6, 7], [0, 1000])) (
    .seq (
     .reg none [⟨(some 8), none, .bin .lss (.t 7) (.t 6)⟩]) (
    .seq (
     .cond (.t 8) (
      .skip) (
      .exit 0)) (
    .seq (
     .block 1 (
      .seq (
       .reg none [⟨(some 9), none, .iad 1 (.t 5) (.t 7)⟩,
         ⟨(some 10), none, .ld 1 false (.t 9)⟩,
         ⟨(some 4), none, .asn (.t 10)⟩]) (
      .seq (
       .reg none [⟨(some 11), none, .mv (.t 4)⟩,
         ⟨(some 12), none, .call 128 [(.t 11)]⟩,
         ⟨(some 13), none, .not (.t 12)⟩]) (
      .cond (.t 13) (
       .seq (
        .reg none [⟨(some 2), none, .asn (.c (.bool false))⟩]) (
       .ret)) (
       .skip))))) (
    .reg none [⟨(some 14), none, .bin .add (.t 7) (.c (.int .i64 (1)))⟩,
      ⟨(some 7), none, .mv (.t 14)⟩]))))))) (
 .seq (
  .reg none [⟨(some 15), none, .mv (.t 0)⟩,
    ⟨(some 16), none, .len (.t 15)⟩,
    ⟨(some 17), none, .bin .leq (.t 16) (.c (.int .i64 (10)))⟩,
    ⟨(some 2), none, .asn (.t 17)⟩]) (
 .ret)))
def r_impl_InputOk : Nat × List RV := (18, [.t 2])

theorem c_impl_InputOk : cmpS PT PF PA (Try.prog.funcs[96]?) = some (r_impl_InputOk.1, r_impl_InputOk.2, stripK k_impl_InputOk) := by kernel_rfl

theorem h_impl_InputOk (w : List Int) (hw : w.length < 2 ^ 63) : CallsF Try.prog 96 [.one (.ar false 0 1 (w.map rI))] (aB (inputOk w)) := by
  refine Prun c_impl_InputOk (by simp [r_impl_InputOk]) (by simp) ?_
  unfold k_impl_InputOk r_impl_InputOk
  simp
  refine awp_loop (fun n σ => ∃ i : Nat, i ≤ w.length ∧ n = w.length - i ∧ allTo (fun x => inr x 0 25) w i = true ∧ σ = ⟨[(0, .one (.ar false 0 1 (w.map rI))), (5, .one (.ar false 0 1 (w.map rI))), (6, aI w.length), (7, aI i)], []⟩) w.length ⟨0, by simp [allTo_zero]⟩ ?_
  rintro n σ ⟨i, hi, rfl, ha, rfl⟩
  by_cases h : i < w.length
  · have hs := allTo_step (p := fun x => inr x 0 25) h
    simp [h]
    refine callG_F (h_isLetter _) (by simp) ?_
    cases c : inr w[i] 0 25
    · have := all_ff (p := fun x => inr x 0 25) h c
      simp [c, inputOk, this]
    · simp [c]
      refine ⟨w.length - (i + 1), by omega, i + 1, by omega, rfl, by rw [hs, ha, c]; rfl, ?_⟩
      rw [wrapI (by omega) (by omega)]
      simp
  · have : i = w.length := by omega
    subst this
    rw [allTo_all] at ha
    by_cases g : (w.length : Int) ≤ 10
    · have g' : w.length ≤ 10 := by omega
      simp [inputOk, ha, g, g']
    · have g' : ¬ w.length ≤ 10 := by omega
      simp [inputOk, ha, g, g']
end Go.Am
-- GramOk
namespace Go.Am
open Go.Proofs
set_option maxHeartbeats 4000000
set_option maxRecDepth 100000
attribute [-simp] BitVec.toNat_or BitVec.toNat_and BitVec.toNat_ofInt
attribute [-simp] rConf_len sConf_len shr_rConf shr_sConf shrs_rConf shrs_sConf noSh_rConf mConf_wr mConf_n
-- 105 loop.example/g00485/spec.GramOk
def k_spec_GramOk : K :=
 .seq (
  .reg none [⟨(some 1), none, .box 39 1 (.t 0)⟩,
    ⟨(some 2), none, .asn (.c (.bool false))⟩]) (
 .seq (
  .reg none [⟨(some 8), none, .fad 0 (.t 1)⟩,
    ⟨(some 9), none, .ld 1 false (.t 8)⟩,
    ⟨(some 10), none, .len (.t 9)⟩,
    ⟨(some 3), none, .asn (.t 10)⟩]) (
 .seq (
  .seq (
   .reg none [⟨(some 11), none, .mv (.t 3)⟩,
     ⟨(some 12), none, .call 54 [(.t 11), (.c (.int .i64 (1))), (.c (.int .i64 (20)))]⟩,
     ⟨(some 13), none, .not (.t 12)⟩]) (
  .cond (.t 13) (
   .seq (
    .reg none [⟨(some 2), none, .asn (.c (.bool false))⟩]) (
   .ret)) (
   .skip))) (
 .seq (
  .seq (
   .reg none [⟨(some 4), none, .asn (.c (.int .i64 (0)))⟩]) (
  .block 0 (
   .loop (some ([1, 3, 4], [1, 3, 4, 1000])) (
    .seq (
     .seq (
      .reg none [⟨(some 14), none, .mv (.t 4)⟩,
        ⟨(some 15), none, .mv (.t 3)⟩,
        ⟨(some 16), none, .bin .lss (.t 14) (.t 15)⟩]) (
     .cond (.t 16) (
      .skip) (
      .exit 0))) (
    .seq (
     .block 1 (
      .seq (
       .seq (
        .reg none [⟨(some 19), none, .fad 0 (.t 1)⟩,
          ⟨(some 20), none, .ld 1 false (.t 19)⟩,
          ⟨(some 21), none, .mv (.t 4)⟩,
          ⟨(some 22), none, .iad 1 (.t 20) (.t 21)⟩,
          ⟨(some 23), none, .ld 1 false (.t 22)⟩,
          ⟨(some 24), none, .len (.t 23)⟩,
          ⟨(some 25), none, .call 54 [(.t 24), (.c (.int .i64 (1))), (.c (.int .i64 (8)))]⟩,
          ⟨(some 26), none, .not (.t 25)⟩]) (
       .cond (.t 26) (
        .seq (
         .reg none [⟨(some 2), none, .asn (.c (.bool false))⟩]) (
        .ret)) (
        .skip))) (
      .seq (
       .reg none [⟨(some 5), none, .asn (.c (.int .i64 (0)))⟩]) (
      .block 2 (
       .loop (some ([1, 3, 4, 5], [1, 3, 4, 5, 1000])) (
        .seq (
         .seq (
          .reg none [⟨(some 27), none, .mv (.t 5)⟩,
            ⟨(some 28), none, .fad 0 (.t 1)⟩,
            ⟨(some 29), none, .ld 1 false (.t 28)⟩,
            ⟨(some 30), none, .mv (.t 4)⟩,
            ⟨(some 31), none, .iad 1 (.t 29) (.t 30)⟩,
            ⟨(some 32), none, .ld 1 false (.t 31)⟩,
            ⟨(some 33), none, .len (.t 32)⟩,
            ⟨(some 34), none, .bin .lss (.t 27) (.t 33)⟩]) (
         .cond (.t 34) (
          .skip) (
          .exit 2))) (
        .seq (
         .block 3 (
          .seq (
           .reg none [⟨(some 37), none, .fad 0 (.t 1)⟩,
             ⟨(some 38), none, .ld 1 false (.t 37)⟩,
             ⟨(some 39), none, .mv (.t 4)⟩,
             ⟨(some 40), none, .iad 1 (.t 38) (.t 39)⟩,
             ⟨(some 41), none, .ld 1 false (.t 40)⟩,
             ⟨(some 42), none, .mv (.t 5)⟩,
             ⟨(some 43), none, .iad 1 (.t 41) (.t 42)⟩,
             ⟨(some 44), none, .ld 1 false (.t 43)⟩,
             ⟨(some 6), none, .asn (.t 44)⟩]) (
          .seq (
           .seq (
            .reg none [⟨(some 45), none, .mv (.t 6)⟩,
              ⟨(some 46), none, .len (.t 45)⟩,
              ⟨(some 47), none, .bin .gtr (.t 46) (.c (.int .i64 (8)))⟩]) (
           .cond (.t 47) (
            .seq (
             .reg none [⟨(some 2), none, .asn (.c (.bool false))⟩]) (
            .ret)) (
            .skip))) (
          .seq (
           .reg none [⟨(some 7), none, .asn (.c (.int .i64 (0)))⟩]) (
          .block 4 (
           .loop (some ([1, 3, 4, 5, 6, 7], [1, 3, 4, 5, 6, 7, 1000])) (
            .seq (
             .seq (
              .reg none [⟨(some 48), none, .mv (.t 7)⟩,
                ⟨(some 49), none, .mv (.t 6)⟩,
                ⟨(some 50), none, .len (.t 49)⟩,
                ⟨(some 51), none, .bin .lss (.t 48) (.t 50)⟩]) (
             .cond (.t 51) (
              .skip) (
              .exit 4))) (
            .seq (
             .block 5 (
              .seq (
               .reg none [⟨(some 54), none, .mv (.t 6)⟩,
                 ⟨(some 55), none, .mv (.t 7)⟩,
                 ⟨(some 56), none, .iad 1 (.t 54) (.t 55)⟩,
                 ⟨(some 57), none, .ld 1 false (.t 56)⟩,
                 ⟨(some 58), none, .call 54 [(.t 57), (.c (.int .i64 (0))), (.c (.int .i64 (25)))]⟩,
                 ⟨(some 59), none, .not (.t 58)⟩,
                 ⟨(some 60), none, .mv (.t 59)⟩,
                 ⟨(some 61), (some (60, true)), .mv (.t 6)⟩,
                 ⟨(some 62), (some (60, true)), .mv (.t 7)⟩,
                 ⟨(some 63), (some (60, true)), .iad 1 (.t 61) (.t 62)⟩,
                 ⟨(some 64), (some (60, true)), .ld 1 false (.t 63)⟩,
                 ⟨(some 65), (some (60, true)), .mv (.t 3)⟩,
                 ⟨(some 66), (some (60, true)), .bin .add (.c (.int .i64 (100))) (.t 65)⟩,
                 ⟨(some 67), (some (60, true)), .bin .sub (.t 66) (.c (.int .i64 (1)))⟩,
                 ⟨(some 68), (some (60, true)), .call 54 [(.t 64), (.c (.int .i64 (100))), (.t 67)]⟩,
                 ⟨(some 69), (some (60, true)), .not (.t 68)⟩,
                 ⟨(some 70), none, .pick (.t 60) (.t 69) (.c (.bool false))⟩]) (
              .cond (.t 70) (
               .seq (
                .reg none [⟨(some 2), none, .asn (.c (.bool false))⟩]) (
               .ret)) (
               .skip)))) (
            .reg none [⟨(some 52), none, .mv (.t 7)⟩,
              ⟨(some 53), none, .bin .add (.t 52) (.c (.int .i64 (1)))⟩,
              ⟨(some 7), none, .asn (.t 53)⟩]))))))))) (
        .reg none [⟨(some 35), none, .mv (.t 5)⟩,
          ⟨(some 36), none, .bin .add (.t 35) (.c (.int .i64 (1)))⟩,
          ⟨(some 5), none, .asn (.t 36)⟩])))))))) (
    .reg none [⟨(some 17), none, .mv (.t 4)⟩,
      ⟨(some 18), none, .bin .add (.t 17) (.c (.int .i64 (1)))⟩,
      ⟨(some 4), none, .asn (.t 18)⟩])))))) (
 .seq (
  .reg none [⟨(some 2), none, .asn (.c (.bool true))⟩]) (
 .ret)))))
def r_spec_GramOk : Nat × List RV := (71, [.t 2])

theorem c_spec_GramOk : cmpS PT PF PA (Try.prog.funcs[105]?) = some (r_spec_GramOk.1, r_spec_GramOk.2, stripK k_spec_GramOk) := by kernel_rfl

theorem h_spec_GramOk (g : TGram) (hg : wGram g < 2 ^ 31) : CallsF Try.prog 105 [.agg (sGram g)] (aB (gramOk g)) := by
  refine Prun c_spec_GramOk (by simp [r_spec_GramOk]) (by simp) ?_
  unfold k_spec_GramOk r_spec_GramOk
  obtain ⟨ps⟩ := g
  simp only [wGram] at hg
  have hln := wL_len (wL (wL w0)) ps
  simp [sGram]
  refine callG_F (h_spec_l1In _ _ _) (by simp) ?_
  cases c : inr ps.length 1 20 with
  | false => simp [gramOk, c]
  | true =>
  simp
  have hn := inr_iff.1 c
  have hT : gramOk ⟨ps⟩ = (ps.drop 0).all (altsOk ps.length) := by simp [gramOk, c]
  generalize gramOk ⟨ps⟩ = T at *
  refine awp_loop (fun n σ => ∃ i : Nat, i ≤ ps.length ∧ n = ps.length - i ∧ T = (ps.drop i).all (altsOk ps.length) ∧ σ = ⟨[(1, .one (.pt 1 1 [] 0 0)), (3, aI ps.length), (4, aI i)], [(1, ⟨39, 1, [[.ar false 0 1 (ps.map sISS)]]⟩)]⟩) (ps.length) ⟨0, by simpa using hT⟩ ?_
  rintro n σ ⟨i, hi, rfl, ht, rfl⟩
  by_cases h : i < ps.length
  case neg =>
    rw [all_end h] at ht
    subst ht
    simp [h]
  rw [all_drop h] at ht
  have hwa := wL_get (wL (wL w0)) ps i h
  have wi : IntKind.i64.wrap ((i : Int) + 1) = i + 1 := wrapI (by omega) (by omega)
  generalize hal : ps[i] = al at *
  have hla := wL_len (wL w0) al
  simp [h, hal, sISS]
  refine callG_F (h_spec_l1In _ _ _) (by simp) ?_
  cases c2 : inr al.length 1 8 with
  | false => simp [altsOk, c2] at ht; simp [ht]
  | true =>
  simp
  have hT2 : T = ((al.drop 0).all (rowOk ps.length) && (ps.drop (i + 1)).all (altsOk ps.length)) := by simpa [altsOk, c2] using ht
  clear ht hT
  refine awp_loop (fun n σ => ∃ j : Nat, j ≤ al.length ∧ n = al.length - j ∧ T = ((al.drop j).all (rowOk ps.length) && (ps.drop (i + 1)).all (altsOk ps.length)) ∧ σ = ⟨[(1, .one (.pt 1 1 [] 0 0)), (3, aI ps.length), (4, aI i), (5, aI j)], [(1, ⟨39, 1, [[.ar false 0 1 (ps.map sISS)]]⟩)]⟩) (al.length) ⟨0, by simpa using hT2⟩ ?_
  rintro n σ ⟨j, hj, rfl, ht, rfl⟩
  by_cases h2 : j < al.length
  case neg =>
    rw [all_end h2, Bool.true_and] at ht
    simp [h, hal, h2, sISS]
    exact ⟨ps.length - (i + 1), by omega, i + 1, by omega, rfl, ht, by rw [wi]; simp⟩
  rw [all_drop h2] at ht
  have hwr := wL_get (wL w0) al j h2
  have wj : IntKind.i64.wrap ((j : Int) + 1) = j + 1 := wrapI (by omega) (by omega)
  generalize hrw : al[j] = row at *
  have hlr := wL_len w0 row
  simp [h, hal, h2, hrw, sISS, sIS]
  by_cases c3 : row.length ≤ 8
  case neg =>
    have c3' : (8 : Int) < row.length := by omega
    simp [rowOk, c3] at ht
    simp [c3', ht]
  have c3' : ¬ (8 : Int) < row.length := by omega
  simp [c3']
  have hT3 : T = ((row.drop 0).all (symOk ps.length) && ((al.drop (j + 1)).all (rowOk ps.length) && (ps.drop (i + 1)).all (altsOk ps.length))) := by simpa [rowOk, c3, Bool.and_assoc] using ht
  clear ht hT2
  refine awp_loop (fun n σ => ∃ k : Nat, k ≤ row.length ∧ n = row.length - k ∧ T = ((row.drop k).all (symOk ps.length) && ((al.drop (j + 1)).all (rowOk ps.length) && (ps.drop (i + 1)).all (altsOk ps.length))) ∧ σ = ⟨[(1, .one (.pt 1 1 [] 0 0)), (3, aI ps.length), (4, aI i), (5, aI j), (6, .one (.ar false 0 1 (row.map rI))), (7, aI k)], [(1, ⟨39, 1, [[.ar false 0 1 (ps.map sISS)]]⟩)]⟩) (row.length) ⟨0, by simpa using hT3⟩ ?_
  rintro n σ ⟨k, hk, rfl, ht, rfl⟩
  by_cases h3 : k < row.length
  case neg =>
    rw [all_end h3, Bool.true_and] at ht
    simp [h3]
    exact ⟨al.length - (j + 1), by omega, j + 1, by omega, rfl, ht, by rw [wj]; simp⟩
  rw [all_drop h3] at ht
  have wk : IntKind.i64.wrap ((k : Int) + 1) = k + 1 := wrapI (by omega) (by omega)
  have wn : IntKind.i64.wrap (100 + (ps.length : Int)) = 100 + ps.length := wrapI (by omega) (by omega)
  have wn2 : IntKind.i64.wrap (100 + (ps.length : Int) - 1) = 99 + ps.length := by rw [wrapI (by omega) (by omega)]; omega
  simp [h3]
  refine callG_F (h_spec_l1In _ _ _) (by simp) ?_
  cases c4 : inr row[k] 0 25 with
  | true =>
    simp [symOk, c4] at ht
    simp
    exact ⟨row.length - (k + 1), by omega, k + 1, by omega, rfl, by simpa using ht, by rw [wk]; simp⟩
  | false =>
    simp [h3, wn, wn2]
    refine callG_F (h_spec_l1In _ _ _) (by simp) ?_
    cases c5 : inr row[k] 100 (99 + ps.length) with
    | true =>
      simp [symOk, c4, c5] at ht
      simp
      exact ⟨row.length - (k + 1), by omega, k + 1, by omega, rfl, by simpa using ht, by rw [wk]; simp⟩
    | false =>
      simp [symOk, c4, c5] at ht
      simp [ht]
-- 113 loop.example/g00485/impl.isPart
def k_impl_isPart : K :=
 .seq (
  .reg none [⟨(some 2), none, .box 39 1 (.t 0)⟩,
    ⟨(some 4), none, .asn (.c (.bool false))⟩]) (
 .seq (
  .reg none [⟨(some 5), none, .mv (.t 1)⟩,
    ⟨(some 6), none, .fad 0 (.t 2)⟩,
    ⟨(some 7), none, .ld 1 false (.t 6)⟩,
    ⟨(some 8), none, .len (.t 7)⟩,
    ⟨(some 9), none, .bin .sub (.t 8) (.c (.int .i64 (1)))⟩,
    ⟨(some 10), none, .call 93 [(.t 5), (.c (.int .i64 (0))), (.t 9)]⟩,
    ⟨(some 4), none, .asn (.t 10)⟩]) (
 .ret))
def r_impl_isPart : Nat × List RV := (11, [.t 4])

theorem c_impl_isPart : cmpS PT PF PA (Try.prog.funcs[113]?) = some (r_impl_isPart.1, r_impl_isPart.2, stripK k_impl_isPart) := by kernel_rfl

theorem h_isPart (g : TGram) (k : Int) (hg : wGram g < 2 ^ 31) : CallsF Try.prog 113 [.agg (sGram g), aI k] (aB (inr k 0 (g.parts.length - 1))) := by
  refine Prun c_impl_isPart (by simp [r_impl_isPart]) (by simp) ?_
  unfold k_impl_isPart r_impl_isPart
  obtain ⟨ps⟩ := g
  simp only [wGram] at hg
  have hln := wL_len (wL (wL w0)) ps
  have wn : IntKind.i64.wrap ((ps.length : Int) - 1) = ps.length - 1 := wrapI (by omega) (by omega)
  simp [sGram, wn]
  refine callG_F (h_impl_inRange _ _ _) (by simp) ?_
  simp
theorem inr_shift (x n : Int) : inr x 100 (99 + n) = (decide (100 ≤ x) && inr (x - 100) 0 (n - 1)) := by
  rw [Bool.eq_iff_iff, Bool.and_eq_true, decide_eq_true_iff, inr_iff, inr_iff]
  omega
-- 180 loop.example/g00485/impl.isSymbol
def k_impl_isSymbol : K :=
 .seq (
  .reg none [⟨(some 2), none, .box 39 1 (.t 0)⟩,
    ⟨(some 4), none, .asn (.c (.bool false))⟩]) (
 .seq (
  .reg none [⟨(some 5), none, .mv (.t 1)⟩,
    ⟨(some 6), none, .call 128 [(.t 5)]⟩,
    ⟨(some 7), none, .mv (.t 6)⟩,
    ⟨(some 8), (some (7, false)), .mv (.t 1)⟩,
    ⟨(some 9), (some (7, false)), .bin .geq (.t 8) (.c (.int .i64 (100)))⟩,
    ⟨(some 10), (some (7, false)), .mv (.t 9)⟩,
    ⟨(some 11), (some (10, true)), .ld 1 true (.t 2)⟩,
    ⟨(some 12), (some (10, true)), .mv (.t 1)⟩,
    ⟨(some 13), (some (10, true)), .bin .sub (.t 12) (.c (.int .i64 (100)))⟩,
    ⟨(some 14), (some (10, true)), .call 113 [(.t 11), (.t 13)]⟩,
    ⟨(some 15), (some (7, false)), .pick (.t 10) (.t 14) (.c (.bool false))⟩,
    ⟨(some 16), none, .pick (.t 7) (.c (.bool true)) (.t 15)⟩,
    ⟨(some 4), none, .asn (.t 16)⟩]) (
 .ret))
def r_impl_isSymbol : Nat × List RV := (17, [.t 4])

theorem c_impl_isSymbol : cmpS PT PF PA (Try.prog.funcs[180]?) = some (r_impl_isSymbol.1, r_impl_isSymbol.2, stripK k_impl_isSymbol) := by kernel_rfl

theorem h_isSymbol (g : TGram) (x : Int) (hg : wGram g < 2 ^ 31) (hx : l0 x) : CallsF Try.prog 180 [.agg (sGram g), aI x] (aB (symOk g.parts.length x)) := by
  refine Prun c_impl_isSymbol (by simp [r_impl_isSymbol]) (by simp) ?_
  unfold k_impl_isSymbol r_impl_isSymbol
  have hp := h_isPart g (x - 100) hg
  obtain ⟨ps⟩ := g
  simp only [l0] at hx
  simp only [sGram] at hp
  simp [sGram]
  refine callG_F (h_isLetter _) (by simp) ?_
  simp only [symOk, inr_shift]
  cases inr x 0 25 with
  | true => simp
  | false =>
    by_cases c : 100 ≤ x
    · have wx : IntKind.i64.wrap (x - 100) = x - 100 := wrapI (by omega) (by omega)
      simp [c, wx]
      refine callG_F hp (by simp) ?_
      simp
    · simp [c]
-- 152 loop.example/g00485/impl.areSymbols
def k_impl_areSymbols : K :=
 .seq (
  .reg none [⟨(some 2), none, .box 39 1 (.t 0)⟩,
    ⟨(some 4), none, .asn (.c (.bool false))⟩]) (
 .seq (
  .seq (
   .reg none [⟨(some 7), none, .mv (.t 1)⟩,
     ⟨(some 8), none, .len (.t 7)⟩,
     ⟨(some 9), none, .mv (.c (.int .i64 (0)))⟩]) (
  .block 0 (
   .loop (some ([2, 7, 8, 9], [1, 2, 1000])) (
    .seq (
     .reg none [⟨(some 10), none, .bin .lss (.t 9) (.t 8)⟩]) (
    .seq (
     .cond (.t 10) (
      .skip) (
      .exit 0)) (
    .seq (
     .block 1 (
      .seq (
       .reg none [⟨(some 11), none, .iad 1 (.t 7) (.t 9)⟩,
         ⟨(some 12), none, .ld 1 false (.t 11)⟩,
         ⟨(some 6), none, .asn (.t 12)⟩]) (
      .seq (
       .reg none [⟨(some 13), none, .ld 1 true (.t 2)⟩,
         ⟨(some 14), none, .mv (.t 6)⟩,
         ⟨(some 15), none, .call 180 [(.t 13), (.t 14)]⟩,
         ⟨(some 16), none, .not (.t 15)⟩]) (
      .cond (.t 16) (
       .seq (
        .reg none [⟨(some 4), none, .asn (.c (.bool false))⟩]) (
       .ret)) (
       .skip))))) (
    .reg none [⟨(some 17), none, .bin .add (.t 9) (.c (.int .i64 (1)))⟩,
      ⟨(some 9), none, .mv (.t 17)⟩]))))))) (
 .seq (
  .reg none [⟨(some 4), none, .asn (.c (.bool true))⟩]) (
 .ret)))
def r_impl_areSymbols : Nat × List RV := (18, [.t 4])

theorem c_impl_areSymbols : cmpS PT PF PA (Try.prog.funcs[152]?) = some (r_impl_areSymbols.1, r_impl_areSymbols.2, stripK k_impl_areSymbols) := by kernel_rfl

theorem h_areSymbols (g : TGram) (row : List Int) (hg : wGram g < 2 ^ 31) (hr : lL l0 row) : CallsF Try.prog 152 [.agg (sGram g), .one (.ar false 0 1 (row.map rI))] (aB (row.all (symOk g.parts.length))) := by
  refine Prun c_impl_areSymbols (by simp [r_impl_areSymbols]) (by simp) ?_
  unfold k_impl_areSymbols r_impl_areSymbols
  have hs : ∀ i (h : i < row.length), _ := fun i h => h_isSymbol g row[i] hg (hr.2 i h)
  obtain ⟨ps⟩ := g
  simp only [sGram] at hs
  have hrl := hr.1
  simp [sGram]
  refine awp_loop (fun n σ => ∃ i : Nat, i ≤ row.length ∧ n = row.length - i ∧ row.all (symOk ps.length) = (row.drop i).all (symOk ps.length) ∧ σ = ⟨[(2, .one (.pt 1 2 [] 0 0)), (7, .one (.ar false 0 1 (row.map rI))), (8, aI row.length), (9, aI i)], [(2, ⟨39, 1, [[.ar false 0 1 (ps.map sISS)]]⟩)]⟩) (row.length) ⟨0, by simp⟩ ?_
  rintro n σ ⟨i, hi, rfl, ht, rfl⟩
  by_cases h : i < row.length
  case neg =>
    rw [all_end h] at ht
    simp [h, ht]
  rw [all_drop h] at ht
  have wi : IntKind.i64.wrap ((i : Int) + 1) = i + 1 := wrapI (by omega) (by omega)
  simp [h]
  refine callG_F (hs i h) (by simp) ?_
  cases c : symOk ps.length row[i] with
  | false => simp [c] at ht; simp [c, ht]
  | true =>
    simp [c] at ht
    simp [c]
    exact ⟨row.length - (i + 1), by omega, i + 1, by omega, rfl, by simpa using ht, by rw [wi]; simp⟩
-- 147 loop.example/g00485/impl.GramOk
def k_impl_GramOk : K :=
 .seq (
  .reg none [⟨(some 1), none, .box 39 1 (.t 0)⟩,
    ⟨(some 2), none, .asn (.c (.bool false))⟩]) (
 .seq (
  .seq (
   .reg none [⟨(some 7), none, .fad 0 (.t 1)⟩,
     ⟨(some 8), none, .ld 1 false (.t 7)⟩,
     ⟨(some 9), none, .len (.t 8)⟩,
     ⟨(some 10), none, .call 93 [(.t 9), (.c (.int .i64 (1))), (.c (.int .i64 (20)))]⟩,
     ⟨(some 11), none, .not (.t 10)⟩]) (
  .cond (.t 11) (
   .seq (
    .reg none [⟨(some 2), none, .asn (.c (.bool false))⟩]) (
   .ret)) (
   .skip))) (
 .seq (
  .seq (
   .reg none [⟨(some 12), none, .fad 0 (.t 1)⟩,
     ⟨(some 13), none, .ld 1 false (.t 12)⟩,
     ⟨(some 14), none, .len (.t 13)⟩,
     ⟨(some 15), none, .mv (.c (.int .i64 (0)))⟩]) (
  .block 0 (
   .loop (some ([1, 13, 14, 15], [1, 1000])) (
    .seq (
     .reg none [⟨(some 16), none, .bin .lss (.t 15) (.t 14)⟩]) (
    .seq (
     .cond (.t 16) (
      .skip) (
      .exit 0)) (
    .seq (
     .block 1 (
      .seq (
       .reg none [⟨(some 17), none, .iad 1 (.t 13) (.t 15)⟩,
         ⟨(some 18), none, .ld 1 false (.t 17)⟩,
         ⟨(some 4), none, .asn (.t 18)⟩]) (
      .seq (
       .seq (
        .reg none [⟨(some 19), none, .mv (.t 4)⟩,
          ⟨(some 20), none, .len (.t 19)⟩,
          ⟨(some 21), none, .call 93 [(.t 20), (.c (.int .i64 (1))), (.c (.int .i64 (8)))]⟩,
          ⟨(some 22), none, .not (.t 21)⟩]) (
       .cond (.t 22) (
        .seq (
         .reg none [⟨(some 2), none, .asn (.c (.bool false))⟩]) (
        .ret)) (
        .skip))) (
      .seq (
       .reg none [⟨(some 23), none, .mv (.t 4)⟩,
         ⟨(some 24), none, .len (.t 23)⟩,
         ⟨(some 25), none, .mv (.c (.int .i64 (0)))⟩]) (
      .block 2 (
       .loop (some ([1, 13, 14, 15, 23, 24, 25], [1, 4, 1000])) (
        .seq (
         .reg none [⟨(some 26), none, .bin .lss (.t 25) (.t 24)⟩]) (
        .seq (
         .cond (.t 26) (
          .skip) (
          .exit 2)) (
        .seq (
         .block 3 (
          .seq (
           .reg none [⟨(some 27), none, .iad 1 (.t 23) (.t 25)⟩,
             ⟨(some 28), none, .ld 1 false (.t 27)⟩,
             ⟨(some 6), none, .asn (.t 28)⟩]) (
          .seq (
           .reg none [⟨(some 29), none, .mv (.t 6)⟩,
             ⟨(some 30), none, .len (.t 29)⟩,
             ⟨(some 31), none, .bin .gtr (.t 30) (.c (.int .i64 (8)))⟩,
             ⟨(some 32), none, .mv (.t 31)⟩,
             ⟨(some 33), (some (32, false)), .ld 1 true (.t 1)⟩,
             ⟨(some 34), (some (32, false)), .mv (.t 6)⟩,
             ⟨(some 35), (some (32, false)), .call 152 [(.t 33), (.t 34)]⟩,
             ⟨(some 36), (some (32, false)), .not (.t 35)⟩,
             ⟨(some 37), none, .pick (.t 32) (.c (.bool true)) (.t 36)⟩]) (
          .cond (.t 37) (
           .seq (
            .reg none [⟨(some 2), none, .asn (.c (.bool false))⟩]) (
           .ret)) (
           .skip))))) (
        .reg none [⟨(some 38), none, .bin .add (.t 25) (.c (.int .i64 (1)))⟩,
          ⟨(some 25), none, .mv (.t 38)⟩])))))))))) (
    .reg none [⟨(some 39), none, .bin .add (.t 15) (.c (.int .i64 (1)))⟩,
      ⟨(some 15), none, .mv (.t 39)⟩]))))))) (
 .seq (
  .reg none [⟨(some 2), none, .asn (.c (.bool true))⟩]) (
 .ret))))
def r_impl_GramOk : Nat × List RV := (40, [.t 2])

theorem c_impl_GramOk : cmpS PT PF PA (Try.prog.funcs[147]?) = some (r_impl_GramOk.1, r_impl_GramOk.2, stripK k_impl_GramOk) := by kernel_rfl

theorem h_impl_GramOk (g : TGram) (hg : wGram g < 2 ^ 31) (hl : lGram g) : CallsF Try.prog 147 [.agg (sGram g)] (aB (gramOk g)) := by
  refine Prun c_impl_GramOk (by simp [r_impl_GramOk]) (by simp) ?_
  unfold k_impl_GramOk r_impl_GramOk
  have hs : ∀ row : List Int, lL l0 row → _ := fun row h => h_areSymbols g row hg h
  obtain ⟨ps⟩ := g
  simp only [wGram] at hg
  simp only [lGram] at hl
  simp only [sGram] at hs
  have hln := wL_len (wL (wL w0)) ps
  simp [sGram]
  refine callG_F (h_impl_inRange _ _ _) (by simp) ?_
  cases c : inr ps.length 1 20 with
  | false => simp [gramOk, c]
  | true =>
  simp
  have hn := inr_iff.1 c
  have hT : gramOk ⟨ps⟩ = (ps.drop 0).all (altsOk ps.length) := by simp [gramOk, c]
  generalize gramOk ⟨ps⟩ = T at *
  refine awp_loop (fun n σ => ∃ i : Nat, i ≤ ps.length ∧ n = ps.length - i ∧ T = (ps.drop i).all (altsOk ps.length) ∧ σ = ⟨[(1, .one (.pt 1 1 [] 0 0)), (13, .one (.ar false 0 1 (ps.map sISS))), (14, aI ps.length), (15, aI i)], [(1, ⟨39, 1, [[.ar false 0 1 (ps.map sISS)]]⟩)]⟩) (ps.length) ⟨0, by simpa using hT⟩ ?_
  rintro n σ ⟨i, hi, rfl, ht, rfl⟩
  by_cases h : i < ps.length
  case neg =>
    rw [all_end h] at ht
    subst ht
    simp [h]
  rw [all_drop h] at ht
  have hwa := wL_get (wL (wL w0)) ps i h
  have hli := hl.2 i h
  have wi : IntKind.i64.wrap ((i : Int) + 1) = i + 1 := wrapI (by omega) (by omega)
  generalize hal : ps[i] = al at *
  have hla := wL_len (wL w0) al
  simp [h, hal, sISS]
  refine callG_F (h_impl_inRange _ _ _) (by simp) ?_
  cases c2 : inr al.length 1 8 with
  | false => simp [altsOk, c2] at ht; simp [ht]
  | true =>
  simp
  have hT2 : T = ((al.drop 0).all (rowOk ps.length) && (ps.drop (i + 1)).all (altsOk ps.length)) := by simpa [altsOk, c2] using ht
  clear ht hT
  refine awp_loop (fun n σ => ∃ j : Nat, j ≤ al.length ∧ n = al.length - j ∧ T = ((al.drop j).all (rowOk ps.length) && (ps.drop (i + 1)).all (altsOk ps.length)) ∧ σ = ⟨[(1, .one (.pt 1 1 [] 0 0)), (13, .one (.ar false 0 1 (ps.map sISS))), (14, aI ps.length), (15, aI i), (23, .one (.ar false 0 1 (al.map sIS))), (24, aI al.length), (25, aI j)], [(1, ⟨39, 1, [[.ar false 0 1 (ps.map sISS)]]⟩)]⟩) (al.length) ⟨0, by simpa using hT2⟩ ?_
  rintro n σ ⟨j, hj, rfl, ht, rfl⟩
  by_cases h2 : j < al.length
  case neg =>
    rw [all_end h2, Bool.true_and] at ht
    simp [h2]
    exact ⟨ps.length - (i + 1), by omega, i + 1, by omega, rfl, ht, by rw [wi]; simp⟩
  rw [all_drop h2] at ht
  have hwr := wL_get (wL w0) al j h2
  have hlj := hli.2 j h2
  have wj : IntKind.i64.wrap ((j : Int) + 1) = j + 1 := wrapI (by omega) (by omega)
  generalize hrw : al[j] = row at *
  simp [h2, hrw, sIS]
  by_cases c3 : row.length ≤ 8
  case neg =>
    have c3' : (8 : Int) < row.length := by omega
    simp [rowOk, c3] at ht
    simp [c3', ht]
  have c3' : ¬ (8 : Int) < row.length := by omega
  simp [c3']
  refine callG_F (hs row hlj) (by simp) ?_
  cases c4 : row.all (symOk ps.length) with
  | false => simp [rowOk, c3, c4] at ht; simp [ht]
  | true =>
    have hr : rowOk ps.length row = true := by simp [rowOk, c3]; simpa using c4
    rw [hr, Bool.true_and] at ht
    simp
    exact ⟨al.length - (j + 1), by omega, j + 1, by omega, rfl, ht, by rw [wj]; simp⟩
end Go.Am
-- SymRow
namespace Go.Am
open Go.Proofs
set_option maxHeartbeats 4000000
set_option maxRecDepth 100000
attribute [-simp] BitVec.toNat_or BitVec.toNat_and BitVec.toNat_ofInt
attribute [-simp] rConf_len sConf_len shr_rConf shr_sConf shrs_rConf shrs_sConf noSh_rConf mConf_wr mConf_n
def rowK (n : Nat) (row : List Int) : Bool := decide (row.length ≤ 200) && row.all (symOk n)
-- 55 loop.example/g00485/spec.l8Known
def k_spec_l8Known : K :=
 .seq (
  .reg none [⟨(some 2), none, .box 39 1 (.t 0)⟩,
    ⟨(some 4), none, .asn (.c (.bool false))⟩]) (
 .seq (
  .seq (
   .reg none [⟨(some 6), none, .mv (.t 1)⟩,
     ⟨(some 7), none, .len (.t 6)⟩,
     ⟨(some 8), none, .bin .gtr (.t 7) (.c (.int .i64 (200)))⟩]) (
  .cond (.t 8) (
   .seq (
    .reg none [⟨(some 4), none, .asn (.c (.bool false))⟩]) (
   .ret)) (
   .skip))) (
 .seq (
  .seq (
   .reg none [⟨(some 5), none, .asn (.c (.int .i64 (0)))⟩]) (
  .block 0 (
   .loop (some ([1, 2, 5], [1, 2, 5, 1000])) (
    .seq (
     .seq (
      .reg none [⟨(some 9), none, .mv (.t 5)⟩,
        ⟨(some 10), none, .mv (.t 1)⟩,
        ⟨(some 11), none, .len (.t 10)⟩,
        ⟨(some 12), none, .bin .lss (.t 9) (.t 11)⟩]) (
     .cond (.t 12) (
      .skip) (
      .exit 0))) (
    .seq (
     .block 1 (
      .seq (
       .drw none 19 [⟨(some 15), none, .mv (.t 1)⟩,
         ⟨(some 16), none, .mv (.t 5)⟩,
         ⟨(some 17), none, .iad 1 (.t 15) (.t 16)⟩,
         ⟨(some 18), none, .ld 1 false (.t 17)⟩,
         ⟨(some 19), none, .call 54 [(.t 18), (.c (.int .i64 (0))), (.c (.int .i64 (25)))]⟩,
         ⟨(some 20), none, .not (.t 19)⟩,
         ⟨(some 21), none, .mv (.t 20)⟩,
         ⟨(some 22), (some (21, true)), .mv (.t 1)⟩,
         ⟨(some 23), (some (21, true)), .mv (.t 5)⟩,
         ⟨(some 24), (some (21, true)), .iad 1 (.t 22) (.t 23)⟩,
         ⟨(some 25), (some (21, true)), .ld 1 false (.t 24)⟩,
         ⟨(some 26), (some (21, true)), .fad 0 (.t 2)⟩,
         ⟨(some 27), (some (21, true)), .ld 1 false (.t 26)⟩,
         ⟨(some 28), (some (21, true)), .len (.t 27)⟩,
         ⟨(some 29), (some (21, true)), .bin .add (.c (.int .i64 (100))) (.t 28)⟩,
         ⟨(some 30), (some (21, true)), .bin .sub (.t 29) (.c (.int .i64 (1)))⟩,
         ⟨(some 31), (some (21, true)), .call 54 [(.t 25), (.c (.int .i64 (100))), (.t 30)]⟩,
         ⟨(some 32), (some (21, true)), .not (.t 31)⟩,
         ⟨(some 33), none, .pick (.t 21) (.t 32) (.c (.bool false))⟩]) (
      .cond (.t 33) (
       .seq (
        .reg none [⟨(some 4), none, .asn (.c (.bool false))⟩]) (
       .ret)) (
       .skip)))) (
    .reg none [⟨(some 13), none, .mv (.t 5)⟩,
      ⟨(some 14), none, .bin .add (.t 13) (.c (.int .i64 (1)))⟩,
      ⟨(some 5), none, .asn (.t 14)⟩])))))) (
 .seq (
  .reg none [⟨(some 4), none, .asn (.c (.bool true))⟩]) (
 .ret))))
def r_spec_l8Known : Nat × List RV := (34, [.t 4])

theorem c_spec_l8Known : cmpS PT PF PA (Try.prog.funcs[55]?) = some (r_spec_l8Known.1, r_spec_l8Known.2, stripK k_spec_l8Known) := by kernel_rfl

theorem h_spec_l8Known (g : TGram) (row : List Int) (hg : wGram g < 2 ^ 31) (hr : row.length < 2 ^ 40) : CallsF Try.prog 55 [.agg (sGram g), .one (.ar false 0 1 (row.map rI))] (aB (rowK g.parts.length row)) := by
  refine Prun c_spec_l8Known (by simp [r_spec_l8Known]) (by simp) ?_
  unfold k_spec_l8Known r_spec_l8Known
  obtain ⟨ps⟩ := g
  simp only [wGram] at hg
  have hln := wL_len (wL (wL w0)) ps
  simp [sGram]
  by_cases c : row.length ≤ 200
  case neg =>
    have c' : (200 : Int) < row.length := by omega
    simp [c', rowK, c]
  have c' : ¬ (200 : Int) < row.length := by omega
  simp [c']
  have hT : rowK ps.length row = (row.drop 0).all (symOk ps.length) := by simp [rowK, c]
  generalize rowK ps.length row = T at *
  refine awp_loop (fun n σ => ∃ i : Nat, i ≤ row.length ∧ n = row.length - i ∧ T = (row.drop i).all (symOk ps.length) ∧ σ = ⟨[(1, .one (.ar false 0 1 (row.map rI))), (2, .one (.pt 1 2 [] 0 0)), (5, aI i)], [(2, ⟨39, 1, [[.ar false 0 1 (ps.map sISS)]]⟩)]⟩) (row.length) ⟨0, by simpa using hT⟩ ?_
  rintro n σ ⟨k, hk, rfl, ht, rfl⟩
  by_cases h3 : k < row.length
  case neg =>
    rw [all_end h3] at ht
    subst ht
    simp [h3]
  rw [all_drop h3] at ht
  have wk : IntKind.i64.wrap ((k : Int) + 1) = k + 1 := wrapI (by omega) (by omega)
  have wn : IntKind.i64.wrap (100 + (ps.length : Int)) = 100 + ps.length := wrapI (by omega) (by omega)
  have wn2 : IntKind.i64.wrap (100 + (ps.length : Int) - 1) = 99 + ps.length := by rw [wrapI (by omega) (by omega)]; omega
  simp [h3]
  refine ⟨_, by simp, h_spec_l1In _ _ _, ?_⟩
  simp
  cases c4 : inr row[k] 0 25 with
  | true =>
    simp [symOk, c4] at ht
    simp
    exact ⟨row.length - (k + 1), by omega, k + 1, by omega, rfl, by simpa using ht, by rw [wk]; simp⟩
  | false =>
    simp [h3, wn, wn2]
    refine ⟨_, by simp, h_spec_l1In _ _ _, ?_⟩
    simp
    cases c5 : inr row[k] 100 (99 + ps.length) with
    | true =>
      simp [symOk, c4, c5] at ht
      simp
      exact ⟨row.length - (k + 1), by omega, k + 1, by omega, rfl, by simpa using ht, by rw [wk]; simp⟩
    | false =>
      simp [symOk, c4, c5] at ht
      simp [ht]
-- 114 loop.example/g00485/impl.isRow
def k_impl_isRow : K :=
 .seq (
  .reg none [⟨(some 2), none, .box 39 1 (.t 0)⟩,
    ⟨(some 4), none, .asn (.c (.bool false))⟩]) (
 .seq (
  .reg none [⟨(some 5), none, .mv (.t 1)⟩,
    ⟨(some 6), none, .len (.t 5)⟩,
    ⟨(some 7), none, .bin .leq (.t 6) (.c (.int .i64 (200)))⟩,
    ⟨(some 8), none, .mv (.t 7)⟩,
    ⟨(some 9), (some (8, true)), .ld 1 true (.t 2)⟩,
    ⟨(some 10), (some (8, true)), .mv (.t 1)⟩,
    ⟨(some 11), (some (8, true)), .call 152 [(.t 9), (.t 10)]⟩,
    ⟨(some 12), none, .pick (.t 8) (.t 11) (.c (.bool false))⟩,
    ⟨(some 4), none, .asn (.t 12)⟩]) (
 .ret))
def r_impl_isRow : Nat × List RV := (13, [.t 4])

theorem c_impl_isRow : cmpS PT PF PA (Try.prog.funcs[114]?) = some (r_impl_isRow.1, r_impl_isRow.2, stripK k_impl_isRow) := by kernel_rfl

theorem h_isRow (g : TGram) (row : List Int) (hg : wGram g < 2 ^ 31) (hr : lL l0 row) : CallsF Try.prog 114 [.agg (sGram g), .one (.ar false 0 1 (row.map rI))] (aB (rowK g.parts.length row)) := by
  refine Prun c_impl_isRow (by simp [r_impl_isRow]) (by simp) ?_
  unfold k_impl_isRow r_impl_isRow
  have ha := h_areSymbols g row hg hr
  obtain ⟨ps⟩ := g
  simp only [sGram] at ha
  simp [sGram]
  by_cases c : row.length ≤ 200
  · have c' : (row.length : Int) ≤ 200 := by omega
    simp [c']
    refine callG_F ha (by simp) ?_
    simp [rowK, c]
  · have c' : ¬ (row.length : Int) ≤ 200 := by omega
    simp [c', rowK, c]
end Go.Am
-- clos2
namespace Go.Am
open Go.Proofs
set_option maxHeartbeats 4000000
set_option maxRecDepth 100000
attribute [-simp] BitVec.toNat_or BitVec.toNat_and BitVec.toNat_ofInt
theorem Part.congr {ps : Parts} {i w w' S W : List TConf} (h : Part ps i w S W) (hw : ∀ x, x ∈ w ↔ x ∈ w') : Part ps i w' S W where
  toSnd := h.toSnd
  ls := h.ls
  lw := h.lw
  lr := h.lr
  ini := fun x hx => by rw [← hw]; exact h.ini x hx
  kid := fun x hx k hk => by rw [← hw]; exact h.kid x hx k hk
  rwt := fun x hx => h.rwt x ((hw x).2 hx)
/-- How a closing stands. -/
def Clo (ps : Parts) (init wait S W : List TConf) (much : Bool) : Prop := (much = false ∧ Part ps init wait S W) ∨ (much = true ∧ Much ps init S W)
theorem gram_row {g : TGram} (hg : gramOk g = true) {k : Nat} (hk : k < g.parts.length) {al : List Int} (ha : al ∈ g.parts[k]) : al.length ≤ 8 ∧ al.all (symOk g.parts.length) = true := by
  simp only [gramOk, Bool.and_eq_true, List.all_eq_true] at hg
  have h1 := hg.2 _ (List.getElem_mem hk)
  simp only [altsOk, Bool.and_eq_true, List.all_eq_true] at h1
  have h2 := h1.2 _ ha
  simp only [rowOk, Bool.and_eq_true, decide_eq_true_eq] at h2
  exact h2
theorem gram_alts {g : TGram} (hg : gramOk g = true) {k : Nat} (hk : k < g.parts.length) : g.parts[k].length ≤ 8 := by
  simp only [gramOk, Bool.and_eq_true, List.all_eq_true] at hg
  have h1 := hg.2 _ (List.getElem_mem hk)
  simp only [altsOk, Bool.and_eq_true, inr_iff] at h1
  omega
theorem gram_len {g : TGram} (hg : gramOk g = true) : 1 ≤ g.parts.length ∧ g.parts.length ≤ 20 := by
  simp only [gramOk, Bool.and_eq_true, inr_iff] at hg
  omega
theorem sym_part {n : Nat} {x : Int} (h : symOk n x = true) (hx : 100 ≤ x) : prt x < n ∧ ((prt x : Nat) : Int) = x - 100 := by
  simp only [symOk, Bool.or_eq_true, inr_iff] at h
  unfold prt
  omega
theorem sym_lt {n : Nat} {x : Int} (hn : n ≤ 20) (h : symOk n x = true) : 0 ≤ x ∧ x < 120 := by
  simp only [symOk, Bool.or_eq_true, inr_iff] at h
  omega
theorem kids_ok {g : TGram} (hg : gramOk g = true) {c k : TConf} (hc : c.row.all (symOk g.parts.length) = true) (ho : opn c = true) (hk : k ∈ kids g.parts c) : k.row.all (symOk g.parts.length) = true ∧ k.row.length ≤ c.row.length + 7 := by
  obtain ⟨a, row⟩ := c
  cases row with
  | nil => simp [opn] at ho
  | cons x r =>
    simp only [opn, decide_eq_true_eq] at ho
    simp only [List.all_cons, Bool.and_eq_true] at hc
    obtain ⟨h1, h2⟩ := sym_part hc.1 ho
    simp only [kids, List.mem_map] at hk
    obtain ⟨al, ha, rfl⟩ := hk
    rw [List.getD_eq_getElem?_getD, List.getElem?_eq_getElem h1, Option.getD_some] at ha
    obtain ⟨h3, h4⟩ := gram_row hg h1 ha
    refine ⟨?_, by simp; omega⟩
    rw [List.all_append, h4, hc.2]; rfl
theorem Rch.ok {g : TGram} (hg : gramOk g = true) {init : List TConf} (hi : ∀ c ∈ init, c.row.all (symOk g.parts.length) = true) {c : TConf} (hc : Rch g.parts init c) : c.row.all (symOk g.parts.length) = true := by
  induction hc with
  | base h => exact hi _ h
  | step _ ho hk ih => exact (kids_ok hg ih ho hk).1
theorem kids_cons {ps : Parts} {x : Int} {r : List Int} {a : Int} (h : prt x < ps.length) (hx : 100 ≤ x) : kids ps ⟨a, x :: r⟩ = ps[prt x].map fun al => ⟨a, al ++ r⟩ := by
  simp [kids, h]
theorem Part.noMuch {ps : Parts} {i w S W : List TConf} {c : TConf} (h : Part ps i (w ++ [c]) S W) (hl : 200 < c.row.length) : Much ps i S W := .inl ⟨c, h.rwt c (by simp), hl⟩
theorem Part.muchS {ps : Parts} {i w S W : List TConf} {c : TConf} (h : Part ps i (w ++ [c]) S W) (ho : opn c = false) (hl : 30 < (putC S c).length) : Much ps i (putC S c) W := .inr ⟨h.toSnd.putS (h.rwt c (by simp)) ho, .inl hl⟩
theorem Part.muchW {ps : Parts} {i w S W : List TConf} {c : TConf} (h : Part ps i (w ++ [c]) S W) (ho : opn c = true) (hl : 200 < (putC W c).length) : Much ps i S (putC W c) := .inr ⟨h.toSnd.putW (h.rwt c (by simp)) ho, .inr hl⟩
theorem putC_old {l : List TConf} {c : TConf} (h : c ∈ l) : putC l c = l := by unfold putC; rw [if_pos h]
theorem putC_new {l : List TConf} {c : TConf} (h : c ∉ l) : (putC l c).length = l.length + 1 := by rw [putC_len, if_neg h]
end Go.Am
-- InConf
namespace Go.Am
open Go.Proofs
set_option maxHeartbeats 4000000
set_option maxRecDepth 100000
attribute [-simp] BitVec.toNat_or BitVec.toNat_and BitVec.toNat_ofInt
attribute [-simp] rIS_len sIS_len shr_rIS shr_sIS shrs_rIS shrs_sIS noSh_rIS rISS_len sISS_len shr_rISS shr_sISS shrs_rISS shrs_sISS noSh_rISS rGram_len sGram_len shr_rGram shr_sGram shrs_rGram shrs_sGram noSh_rGram mGram_wr mGram_n
def renIn_Conf : Shelf.Ren := ⟨fun k => if k = 22 then 198 else if k = 29 then 210 else 211, fun k => if k = 9 then 96 else if k = 24 then 36 else k, fun k => k⟩
theorem laidIn_Conf : AmL.LIns Try.prog renIn_Conf 2 where
  mixed := by kernel_rfl
  f22 := ⟨((Try.prog.funcs[198]?).map (·.name)).getD "", by kernel_rfl, by kernel_rfl⟩
  ov := ⟨_, Try.func210, by kernel_rfl, by kernel_rfl, by kernel_rfl, by kernel_rfl⟩
  t3 := Try.underlying3
  a3 := Try.isAgg3
  z3 := Try.sizeOf3
  t4 := Try.underlying4
  a4 := Try.isAgg4
  z4 := Try.sizeOf4
  z9 := Try.sizeOf96
  t24 := Try.underlying36
  a24 := Try.isAgg36
  z24 := Try.sizeOf36
  i9 := by
    obtain ⟨i, h1, h2, h3, h4⟩ := info_parts (show (Try.prog.info? 96).map (fun i => (i.zero, i.size, i.bytes)) = some (some (.agg #[.int .i64 0, .slice none 0 0]), 2, 32) by kernel_rfl)
    exact ⟨i, _, h1, h2, h3, by omega, rfl⟩
  he := by decide
theorem h_ins_Conf (xs : List TConf) (x : TConf) (i : Nat) (hi : i ≤ xs.length) (hn : xs.length + 1 ≤ 4294967296) : CallsF Try.prog 198 [.one (.ar true 96 2 (xs.map sConf)), .one (.int .i64 i), .one (.ar true 96 2 [sConf x])] (.one (.ar true 96 2 ((xs.take i ++ [x] ++ xs.drop i).map sConf))) := by
  have h := ins_callsA laidIn_Conf (xs.map sConf) (sConf x) i (by simpa using hi) (by simpa using hn)
  simpa [renIn_Conf] using h
end Go.Am
-- Cl_int
namespace Go.Am
open Go.Proofs
set_option maxHeartbeats 4000000
set_option maxRecDepth 100000
attribute [-simp] BitVec.toNat_or BitVec.toNat_and BitVec.toNat_ofInt
attribute [-simp] rConf_len sConf_len shr_rConf shr_sConf shrs_rConf shrs_sConf noSh_rConf mConf_wr mConf_n rIS_len sIS_len shr_rIS shr_sIS shrs_rIS shrs_sIS noSh_rIS rISS_len sISS_len shr_rISS shr_sISS shrs_rISS shrs_sISS noSh_rISS rGram_len sGram_len shr_rGram shr_sGram shrs_rGram shrs_sGram noSh_rGram mGram_wr mGram_n
def renCl_int : Shelf.Ren := ⟨fun _ => 124, fun k => if k = 9 then 3 else if k = 24 then 34 else k, fun k => k⟩
theorem laidCl_int : AmL.LCl Try.prog renCl_int 1 where
  mixed := by kernel_rfl
  f16 := ⟨((Try.prog.funcs[124]?).map (·.name)).getD "", by kernel_rfl, by kernel_rfl⟩
  t4 := Try.underlying4
  a4 := Try.isAgg4
  z4 := Try.sizeOf4
  z9 := Try.sizeOf3
  t24 := Try.underlying34
  a24 := Try.isAgg34
  z24 := Try.sizeOf34
  i9 := by
    obtain ⟨i, h1, h2, h3, h4⟩ := info_parts (show (Try.prog.info? 3).map (fun i => (i.zero, i.size, i.bytes)) = some (some (.int .i64 0), 1, 8) by kernel_rfl)
    exact ⟨i, _, h1, h2, h3, by omega, rfl⟩
  he := by decide
theorem h_clone_int (xs : List Int) (hn : xs.length ≤ 4294967296) : CallsF Try.prog 124 [.one (.ar false 0 1 (xs.map rI))] (.one (.ar true 3 1 (xs.map rI))) :=
  clone_callsF laidCl_int (xs.map rI) (by simpa using hn)
end Go.Am
-- Search
namespace Go.Am
open Go.Proofs
set_option maxHeartbeats 4000000
set_option maxRecDepth 100000
attribute [-simp] BitVec.toNat_or BitVec.toNat_and BitVec.toNat_ofInt
def lbC (l : List TConf) (x : TConf) : Nat := l.findIdx (fun y => decide (0 ≤ ordC y x))
theorem lbC_le (l : List TConf) (x : TConf) : lbC l x ≤ l.length := List.findIdx_le_length
theorem lbC_iff {l : List TConf} {x : TConf} (hs : srtC l) {h : Nat} (hl : h < l.length) : ordC l[h] x < 0 ↔ h < lbC l x := by
  constructor
  · intro hc
    rcases Nat.lt_or_ge h (lbC l x) with h1 | h1
    · exact h1
    · have hq : lbC l x < l.length := by omega
      have h2 : decide (0 ≤ ordC l[lbC l x] x) = true := List.findIdx_getElem (p := fun y => decide (0 ≤ ordC y x)) (xs := l) (w := hq)
      have h2 := of_decide_eq_true h2
      by_cases e : lbC l x = h
      · simp only [e] at h2; omega
      · have h3 : ordC l[lbC l x] l[h] < 0 := List.pairwise_iff_getElem.1 hs _ _ hq hl (by omega)
        have := ordC_trans h3 hc
        omega
  · intro h1
    have := List.not_of_lt_findIdx (p := fun y => decide (0 ≤ ordC y x)) (xs := l) h1
    simp at this
    omega
theorem lbC_mem {l : List TConf} {x : TConf} (hs : srtC l) : x ∈ l ↔ ∃ h : lbC l x < l.length, ordC l[lbC l x] x = 0 := by
  constructor
  · intro hx
    obtain ⟨k, hk, rfl⟩ := List.mem_iff_getElem.1 hx
    have h0 : ordC l[k] l[k] = 0 := ordC_eq.2 rfl
    have h1 : ¬ k < lbC l l[k] := fun h => by have := (lbC_iff hs hk).2 h; omega
    have hq : lbC l l[k] < l.length := by omega
    refine ⟨hq, ?_⟩
    have h2 : ¬ ordC l[lbC l l[k]] l[k] < 0 := fun h => by have := (lbC_iff hs hq).1 h; omega
    by_cases e : lbC l l[k] = k
    · simp only [e]; exact h0
    · have h3 : ordC l[lbC l l[k]] l[k] < 0 := List.pairwise_iff_getElem.1 hs _ _ hq hk (by omega)
      omega
  · rintro ⟨h, h0⟩
    rw [← ordC_eq.1 h0]
    exact List.getElem_mem h
theorem lbC_at {l : List TConf} {x : TConf} (hx : x ∉ l) : lbC l x = atC l x := by
  unfold lbC atC
  induction l with
  | nil => rfl
  | cons y r ih =>
    rw [List.findIdx_cons, List.findIdx_cons, ih fun h => hx (List.mem_cons_of_mem _ h)]
    have : ordC y x ≠ 0 := fun e => hx (by rw [← ordC_eq.1 e]; exact List.mem_cons_self ..)
    by_cases c : 0 < ordC y x
    · simp [c, show 0 ≤ ordC y x by omega]
    · simp [c, show ¬ 0 ≤ ordC y x by omega]
theorem half {a : Int} (ha : 0 ≤ a) : a.fdiv (2 ^ min 1 IntKind.u64.bits) = a / 2 := by
  show a.fdiv (2 ^ min 1 64) = _
  rw [show min 1 64 = 1 from rfl, Int.pow_succ, Int.pow_zero, Int.one_mul, Int.fdiv_eq_ediv_of_nonneg _ (by omega)]
-- 197 slices.BinarySearchFunc[[]loop.example/g00485/impl.Conf,loop.example/g00485/impl.Conf,loop.example/g00485/impl.Conf]
def k_slices_BinarySearchFunc_impl_Conf_impl_Conf_impl_Conf : K :=
 .seq (
  .reg none [⟨(some 4), none, .box 96 2 (.t 1)⟩,
    ⟨(some 6), none, .asn (.c (.int .i64 (0)))⟩,
    ⟨(some 7), none, .asn (.c (.bool false))⟩]) (
 .seq (
  .reg none [⟨(some 12), none, .mv (.t 0)⟩,
    ⟨(some 13), none, .len (.t 12)⟩,
    ⟨(some 8), none, .asn (.t 13)⟩]) (
 .seq (
  .reg none [⟨(some 14), none, .mv (.t 8)⟩,
    ⟨(some 9), none, .asn (.c (.int .i64 (0)))⟩,
    ⟨(some 10), none, .asn (.t 14)⟩]) (
 .seq (
  .block 0 (
   .loop (some ([0, 2, 4, 8, 9, 10], [0, 2, 4, 8, 9, 10, 11, 1000])) (
    .seq (
     .seq (
      .reg none [⟨(some 15), none, .mv (.t 9)⟩,
        ⟨(some 16), none, .mv (.t 10)⟩,
        ⟨(some 17), none, .bin .lss (.t 15) (.t 16)⟩]) (
     .cond (.t 17) (
      .skip) (
      .exit 0))) (
    .block 1 (
     .seq (
      .reg none [⟨(some 18), none, .mv (.t 9)⟩,
        ⟨(some 19), none, .mv (.t 10)⟩,
        ⟨(some 20), none, .bin .add (.t 18) (.t 19)⟩,
        ⟨(some 21), none, .conv .u64 (.t 20)⟩,
        ⟨(some 22), none, .bin .shr (.t 21) (.c (.int .u64 (1)))⟩,
        ⟨(some 23), none, .conv .i64 (.t 22)⟩,
        ⟨(some 11), none, .asn (.t 23)⟩]) (
     .seq (
      .drw none 8 [⟨(some 24), none, .mv (.t 2)⟩,
        ⟨(some 25), none, .mv (.t 0)⟩,
        ⟨(some 26), none, .mv (.t 11)⟩,
        ⟨(some 27), none, .iad 2 (.t 25) (.t 26)⟩,
        ⟨(some 28), none, .ld 2 true (.t 27)⟩,
        ⟨(some 29), none, .ld 2 true (.t 4)⟩,
        ⟨(some 30), none, .callv (.t 24) [(.t 28), (.t 29)]⟩,
        ⟨(some 31), none, .bin .lss (.t 30) (.c (.int .i64 (0)))⟩]) (
     .cond (.t 31) (
      .reg none [⟨(some 32), none, .mv (.t 11)⟩,
        ⟨(some 33), none, .bin .add (.t 32) (.c (.int .i64 (1)))⟩,
        ⟨(some 9), none, .asn (.t 33)⟩]) (
      .reg none [⟨(some 34), none, .mv (.t 11)⟩,
        ⟨(some 10), none, .asn (.t 34)⟩])))))))) (
 .seq (
  .drw none 0 [⟨(some 35), none, .mv (.t 9)⟩,
    ⟨(some 36), none, .mv (.t 9)⟩,
    ⟨(some 37), none, .mv (.t 8)⟩,
    ⟨(some 38), none, .bin .lss (.t 36) (.t 37)⟩,
    ⟨(some 39), none, .mv (.t 38)⟩,
    ⟨(some 40), (some (39, true)), .mv (.t 2)⟩,
    ⟨(some 41), (some (39, true)), .mv (.t 0)⟩,
    ⟨(some 42), (some (39, true)), .mv (.t 9)⟩,
    ⟨(some 43), (some (39, true)), .iad 2 (.t 41) (.t 42)⟩,
    ⟨(some 44), (some (39, true)), .ld 2 true (.t 43)⟩,
    ⟨(some 45), (some (39, true)), .ld 2 true (.t 4)⟩,
    ⟨(some 46), (some (39, true)), .callv (.t 40) [(.t 44), (.t 45)]⟩,
    ⟨(some 47), (some (39, true)), .bin .eql (.t 46) (.c (.int .i64 (0)))⟩,
    ⟨(some 48), none, .pick (.t 39) (.t 47) (.c (.bool false))⟩,
    ⟨(some 6), none, .asn (.t 35)⟩,
    ⟨(some 7), none, .asn (.t 48)⟩]) (
 .ret)))))
def r_slices_BinarySearchFunc_impl_Conf_impl_Conf_impl_Conf : Nat × List RV := (49, [.t 6, .t 7])

theorem c_slices_BinarySearchFunc_impl_Conf_impl_Conf_impl_Conf : cmpS PT PF PA (Try.prog.funcs[197]?) = some (r_slices_BinarySearchFunc_impl_Conf_impl_Conf_impl_Conf.1, r_slices_BinarySearchFunc_impl_Conf_impl_Conf_impl_Conf.2, stripK k_slices_BinarySearchFunc_impl_Conf_impl_Conf_impl_Conf) := by kernel_rfl

theorem h_search (xs : List TConf) (c : TConf) (hs : srtC xs) (hx : xs.length < 2 ^ 30) (hw : ∀ x ∈ xs, wConf x < 2 ^ 40) : CallsF Try.prog 197 [.one (.ar false 0 2 (xs.map sConf)), .agg (sConf c), .one (.fn 190 [])] (.tup [(false, [cI (lbC xs c)]), (false, [.bool (decide (c ∈ xs))])]) := by
  refine Prun c_slices_BinarySearchFunc_impl_Conf_impl_Conf_impl_Conf (by simp [r_slices_BinarySearchFunc_impl_Conf_impl_Conf_impl_Conf]) (by simp) ?_
  unfold k_slices_BinarySearchFunc_impl_Conf_impl_Conf_impl_Conf r_slices_BinarySearchFunc_impl_Conf_impl_Conf_impl_Conf
  have hok := PfnOk 190 (by kernel_rfl)
  have hcmp : ∀ i (h : i < xs.length), _ := fun i h => h_impl_compareConfs xs[i] c (hw _ (List.getElem_mem h))
  have hle := lbC_le xs c
  have hiff := @lbC_iff xs c hs
  have hmem := lbC_mem (x := c) hs
  obtain ⟨c1, c2⟩ := c
  simp only [sConf] at hcmp
  simp [sConf]
  generalize hq : lbC xs ⟨c1, c2⟩ = q at *
  refine awp_loop (fun n σ => ∃ i j : Nat, i ≤ q ∧ q ≤ j ∧ j ≤ xs.length ∧ n = j - i ∧ σ = ⟨[(0, .one (.ar false 0 2 (xs.map sConf))), (2, .one (.fn 190 [])), (4, .one (.pt 2 4 [] 0 0)), (8, aI xs.length), (9, aI i), (10, aI j)], [(4, ⟨96, 2, [[cI c1, .ar false 0 1 (c2.map rI)]]⟩)]⟩) (xs.length) ⟨0, xs.length, by omega, by omega, by omega, rfl, by simp⟩ ?_
  rintro n σ ⟨i, j, hi, hj, hjn, rfl, rfl⟩
  by_cases h : i < j
  · have h' : (i : Int) < j := by omega
    have w1 : IntKind.i64.wrap ((i : Int) + j) = i + j := wrapI (by omega) (by omega)
    have w2 : IntKind.u64.wrap ((i : Int) + j) = i + j := by
      have e : IntKind.u64.wrap ((i : Int) + j) = ((i : Int) + j) % 18446744073709551616 := by simp [IntKind.wrap, IntKind.bits, IntKind.signed]
      rw [e]; omega
    have hh := half (a := (i : Int) + j) (by omega)
    have w3 : IntKind.i64.wrap (((i : Int) + j) / 2) = (((i + j) / 2 : Nat) : Int) := by rw [wrapI (by omega) (by omega)]; omega
    have hm : (i + j) / 2 < xs.length := by omega
    have hm1 : i ≤ (i + j) / 2 := by omega
    have hm2 : (i + j) / 2 < j := by omega
    have wm : IntKind.i64.wrap ((((i + j) / 2 : Nat) : Int) + 1) = (((i + j) / 2 : Nat) : Int) + 1 := wrapI (by omega) (by omega)
    have hc := hcmp _ hm
    have hif := hiff hm
    have hnn : ¬ (1 : Int) < 0 := by omega
    generalize (i + j) / 2 = m at *
    rcases ea : xs[m] with ⟨x1, x2⟩
    rw [ea] at hc hif
    simp [h', w1, w2, intShift, hnn, hh, w3, hm, ea, sConf]
    refine ⟨hok, _, by simp, hc, ?_⟩
    by_cases d : ordC ⟨x1, x2⟩ ⟨c1, c2⟩ < 0
    · have := hif.1 d
      simp [d, wm]
      exact ⟨j - (m + 1), by omega, m + 1, by omega, j, hj, hjn, rfl, by omega, rfl⟩
    · have hd : ¬ m < q := fun h => d (hif.2 h)
      simp [d]
      exact ⟨m - i, by omega, i, hi, m, by omega, by omega, rfl, rfl, rfl⟩
  · have h' : ¬ (i : Int) < j := by omega
    have : i = q := by omega
    subst this
    by_cases hlt : i < xs.length
    · have hc := hcmp _ hlt
      have hm2 : (TConf.mk c1 c2 ∈ xs) ↔ ordC xs[i] ⟨c1, c2⟩ = 0 := by
        rw [hmem]
        constructor
        · rintro ⟨_, h⟩
          simpa only [hq] using h
        · intro h
          exact ⟨by omega, by simpa only [hq] using h⟩
      rcases ea : xs[i] with ⟨x1, x2⟩
      rw [ea] at hc hm2
      simp [h', hlt, ea, sConf, hok]
      refine callG_F hc (by simp) ?_
      simp [hm2]
    · have hm2 : ¬ TConf.mk c1 c2 ∈ xs := by
        rw [hmem]
        rintro ⟨h, _⟩
        omega
      simp [h', hlt, hm2]
-- 181 loop.example/g00485/impl.insert
def k_impl_insert : K :=
 .seq (
  .reg none [⟨(some 3), none, .box 96 2 (.t 1)⟩,
    ⟨(some 4), none, .asn (.c (.ar true 96 2 []))⟩,
    ⟨(some 5), none, .asn (.c (.bool false))⟩]) (
 .seq (
  .reg none [⟨(some 9), none, .mv (.t 0)⟩,
    ⟨(some 10), none, .ld 2 true (.t 3)⟩,
    ⟨(some 11), none, .call 197 [(.t 9), (.t 10), (.c (.fn 190 []))]⟩,
    ⟨(some 8), none, .mv (.t 11)⟩,
    ⟨(some 12), none, .ext 0 (.t 8)⟩,
    ⟨(some 13), none, .ext 1 (.t 8)⟩,
    ⟨(some 6), none, .asn (.t 12)⟩,
    ⟨(some 7), none, .asn (.t 13)⟩]) (
 .seq (
  .seq (
   .reg none [⟨(some 14), none, .mv (.t 7)⟩]) (
  .cond (.t 14) (
   .seq (
    .reg none [⟨(some 15), none, .mv (.t 0)⟩,
      ⟨(some 4), none, .asn (.t 15)⟩,
      ⟨(some 5), none, .asn (.c (.bool false))⟩]) (
   .ret)) (
   .skip))) (
 .seq (
  .reg none [⟨(some 16), none, .mv (.t 0)⟩,
    ⟨(some 17), none, .mv (.t 6)⟩,
    ⟨(some 18), none, .ld 2 true (.t 3)⟩,
    ⟨(some 19), none, .bls 96 2 false [(.t 18)]⟩,
    ⟨(some 20), none, .callo 198 3 [(.t 16), (.t 17), (.t 19)]⟩,
    ⟨(some 4), none, .asn (.t 20)⟩,
    ⟨(some 5), none, .asn (.c (.bool true))⟩]) (
 .ret))))
def r_impl_insert : Nat × List RV := (21, [.t 4, .t 5])

theorem c_impl_insert : cmpS PT PF PA (Try.prog.funcs[181]?) = some (r_impl_insert.1, r_impl_insert.2, stripK k_impl_insert) := by kernel_rfl

theorem h_insert (xs : List TConf) (c : TConf) (hs : srtC xs) (hx : xs.length < 2 ^ 30) (hw : ∀ x ∈ xs, wConf x < 2 ^ 40) : CallsF Try.prog 181 [.one (.ar true 96 2 (xs.map sConf)), .agg (sConf c)] (.tup [(false, [.ar true 96 2 ((putC xs c).map sConf)]), (false, [.bool (!decide (c ∈ xs))])]) := by
  refine Prun c_impl_insert (by simp [r_impl_insert]) (by simp) ?_
  unfold k_impl_insert r_impl_insert
  have hse := h_search xs c hs hx hw
  have hin := h_ins_Conf xs c (lbC xs c) (lbC_le xs c) (by omega)
  have hput : putC xs c = if c ∈ xs then xs else xs.take (lbC xs c) ++ [c] ++ xs.drop (lbC xs c) := by
    unfold putC
    by_cases h : c ∈ xs
    · rw [if_pos h, if_pos h]
    · rw [if_neg h, if_neg h, lbC_at h]
  rw [hput]
  obtain ⟨c1, c2⟩ := c
  simp only [sConf] at hse hin
  generalize lbC xs ⟨c1, c2⟩ = q at *
  simp [sConf]
  refine callG_F hse (by simp) ?_
  by_cases h : TConf.mk c1 c2 ∈ xs
  · simp [h]
  · simp [h]
    refine callOG_F hin (by simp) ?_
    simp [sConf]
    rw [List.take_of_length_le]
    simp
end Go.Am
-- Concat
namespace Go.Am
open Go.Proofs
set_option maxHeartbeats 4000000
set_option maxRecDepth 100000
attribute [-simp] BitVec.toNat_or BitVec.toNat_and BitVec.toNat_ofInt
attribute [-simp] rConf_len sConf_len shr_rConf shr_sConf shrs_rConf shrs_sConf noSh_rConf mConf_wr mConf_n rISS_len sISS_len shr_rISS shr_sISS shrs_rISS shrs_sISS noSh_rISS rGram_len sGram_len shr_rGram shr_sGram shrs_rGram shrs_sGram noSh_rGram mGram_wr mGram_n
def renGr : Shelf.Ren := ⟨fun _ => 153, fun k => if k = 22 then 34 else if k = 25 then 3 else if k = 20 then 20 else if k = 0 then 0 else if k = 3 then 3 else if k = 4 then 4 else if k = 9 then 9 else k, fun k => k⟩
theorem laidGr : Lays8.n4 Try.prog renGr where
  mixed := by kernel_rfl
  f4 := ⟨((Try.prog.funcs[153]?).map (·.name)).getD "", by kernel_rfl, by kernel_rfl⟩
  t0 := Try.underlying0
  a0 := Try.isAgg0
  z0 := Try.sizeOf0
  v0 := Try.zeroValue0
  t3 := Try.underlying3
  a3 := Try.isAgg3
  z3 := Try.sizeOf3
  v3 := Try.zeroValue3
  t4 := Try.underlying4
  a4 := Try.isAgg4
  z4 := Try.sizeOf4
  v4 := Try.zeroValue4
  t9 := Try.underlying9
  a9 := Try.isAgg9
  z9 := Try.sizeOf9
  v9 := Try.zeroValue9
  t20 := Try.underlying20
  a20 := Try.isAgg20
  z20 := Try.sizeOf20
  v20 := Try.zeroValue20
  t22 := Try.underlying34
  a22 := Try.isAgg34
  z22 := Try.sizeOf34
  v22 := Try.zeroValue34
theorem h_grow (n : Nat) (hn : n ≤ 4294967296) : CallsF Try.prog 153 [.one (.ar true 3 1 []), aI n] (.one (.ar true 3 1 [])) := by
  obtain ⟨i, h1, h2, h3, h4⟩ := info_parts (show (Try.prog.info? 3).map (fun i => (i.zero, i.size, i.bytes)) = some (some (.int .i64 0), 1, 8) by kernel_rfl)
  exact grow_calls0 laidGr i _ h1 h2 h3 rfl (by omega) n hn
-- BAD [7: makeInterface]
-- 115 slices.Concat[[]int,int]
def k_slices_Concat_int_int : K :=
 .seq (
  .reg none [⟨(some 2), none, .asn (.c (.ar true 3 1 []))⟩]) (
 .seq (
  .reg none [⟨(some 3), none, .asn (.c (.int .i64 (0)))⟩]) (
 .seq (
  .seq (
   .reg none [⟨(some 9), none, .mv (.t 0)⟩,
     ⟨(some 10), none, .len (.t 9)⟩,
     ⟨(some 11), none, .mv (.c (.int .i64 (0)))⟩]) (
  .block 0 (
   .loop (some ([0, 3, 9, 10, 11], [0, 3, 1000])) (
    .seq (
     .reg none [⟨(some 12), none, .bin .lss (.t 11) (.t 10)⟩]) (
    .seq (
     .cond (.t 12) (
      .skip) (
      .exit 0)) (
    .seq (
     .block 1 (
      .seq (
       .reg none [⟨(some 13), none, .iad 1 (.t 9) (.t 11)⟩,
         ⟨(some 14), none, .ld 1 false (.t 13)⟩,
         ⟨(some 5), none, .asn (.t 14)⟩]) (
      .seq (
       .reg none [⟨(some 15), none, .mv (.t 3)⟩,
         ⟨(some 16), none, .mv (.t 5)⟩,
         ⟨(some 17), none, .len (.t 16)⟩,
         ⟨(some 18), none, .bin .add (.t 15) (.t 17)⟩,
         ⟨(some 3), none, .asn (.t 18)⟩]) (
      .seq (
       .reg none [⟨(some 19), none, .mv (.t 3)⟩,
         ⟨(some 20), none, .bin .lss (.t 19) (.c (.int .i64 (0)))⟩]) (
      .cond (.t 20) (
       .bad) (
       .skip)))))) (
    .reg none [⟨(some 22), none, .bin .add (.t 11) (.c (.int .i64 (1)))⟩,
      ⟨(some 11), none, .mv (.t 22)⟩]))))))) (
 .seq (
  .reg none [⟨(some 23), none, .mv (.t 3)⟩,
    ⟨(some 24), none, .callo 153 1 [(.c (.ar true 3 1 [])), (.t 23)]⟩,
    ⟨(some 6), none, .asn (.t 24)⟩]) (
 .seq (
  .seq (
   .reg none [⟨(some 25), none, .mv (.t 0)⟩,
     ⟨(some 26), none, .len (.t 25)⟩,
     ⟨(some 27), none, .mv (.c (.int .i64 (0)))⟩]) (
  .block 2 (
   .loop (some ([6, 25, 26, 27], [0, 6, 1000])) (
    .seq (
     .reg none [⟨(some 28), none, .bin .lss (.t 27) (.t 26)⟩]) (
    .seq (
     .cond (.t 28) (
      .skip) (
      .exit 2)) (
    .seq (
     .block 3 (
      .seq (
       .reg none [⟨(some 29), none, .iad 1 (.t 25) (.t 27)⟩,
         ⟨(some 30), none, .ld 1 false (.t 29)⟩,
         ⟨(some 8), none, .asn (.t 30)⟩]) (
      .reg none [⟨(some 31), none, .mv (.t 6)⟩,
        ⟨(some 32), none, .mv (.t 8)⟩,
        ⟨(some 33), none, .app 3 1 8 false (.t 31) (.t 32)⟩,
        ⟨(some 6), none, .asn (.t 33)⟩]))) (
    .reg none [⟨(some 34), none, .bin .add (.t 27) (.c (.int .i64 (1)))⟩,
      ⟨(some 27), none, .mv (.t 34)⟩]))))))) (
 .seq (
  .reg none [⟨(some 35), none, .mv (.t 6)⟩,
    ⟨(some 2), none, .asn (.t 35)⟩]) (
 .ret))))))
def r_slices_Concat_int_int : Nat × List RV := (36, [.t 2])

theorem c_slices_Concat_int_int : cmpS PT PF PA (Try.prog.funcs[115]?) = some (r_slices_Concat_int_int.1, r_slices_Concat_int_int.2, stripK k_slices_Concat_int_int) := by kernel_rfl

theorem h_concat (xs ys : List Int) (hx : xs.length < 2 ^ 30) (hy : ys.length < 2 ^ 30) : CallsF Try.prog 115 [.one (.ar false 0 1 [[.ar false 0 1 (xs.map rI)], [.ar false 0 1 (ys.map rI)]])] (.one (.ar true 3 1 ((xs ++ ys).map rI))) := by
  refine Prun c_slices_Concat_int_int (by simp [r_slices_Concat_int_int]) (by simp) ?_
  unfold k_slices_Concat_int_int r_slices_Concat_int_int
  have hg := h_grow (xs.length + ys.length) (by omega)
  have w1 : IntKind.i64.wrap (xs.length : Int) = xs.length := wrapI (by omega) (by omega)
  have w2 : IntKind.i64.wrap ((xs.length : Int) + ys.length) = xs.length + ys.length := wrapI (by omega) (by omega)
  have wa : IntKind.i64.wrap 1 = 1 := wrapI (by omega) (by omega)
  have wb : IntKind.i64.wrap 2 = 2 := wrapI (by omega) (by omega)
  have n1 : ¬ (xs.length : Int) < 0 := by omega
  have n2 : ¬ (xs.length : Int) + ys.length < 0 := by omega
  simp
  refine awp_loop (fun n σ => (n = 2 ∧ σ = ⟨[(0, .one (.ar false 0 1 [[.ar false 0 1 (xs.map rI)], [.ar false 0 1 (ys.map rI)]])), (3, aI 0), (9, .one (.ar false 0 1 [[.ar false 0 1 (xs.map rI)], [.ar false 0 1 (ys.map rI)]])), (10, aI 2), (11, aI 0)], []⟩) ∨ (n = 1 ∧ σ = ⟨[(0, .one (.ar false 0 1 [[.ar false 0 1 (xs.map rI)], [.ar false 0 1 (ys.map rI)]])), (3, aI xs.length), (9, .one (.ar false 0 1 [[.ar false 0 1 (xs.map rI)], [.ar false 0 1 (ys.map rI)]])), (10, aI 2), (11, aI 1)], []⟩) ∨ (n = 0 ∧ σ = ⟨[(0, .one (.ar false 0 1 [[.ar false 0 1 (xs.map rI)], [.ar false 0 1 (ys.map rI)]])), (3, aI (xs.length + ys.length)), (9, .one (.ar false 0 1 [[.ar false 0 1 (xs.map rI)], [.ar false 0 1 (ys.map rI)]])), (10, aI 2), (11, aI 2)], []⟩)) 2 (by simp) ?_
  rintro n σ (⟨rfl, rfl⟩ | ⟨rfl, rfl⟩ | ⟨rfl, rfl⟩)
  · simp [w1, wa, n1]
  · simp [w2, wb, n2]
  simp
  refine callOG_F hg (by simp) ?_
  have hb1 : xs.length ≤ 4294967296 := by omega
  have hb2 : xs.length + ys.length ≤ 4294967296 := by omega
  simp
  refine awp_loop (fun n σ => (n = 2 ∧ σ = ⟨[(6, .one (.vw 3 1 6 [] 0 0)), (25, .one (.ar false 0 1 [[.ar false 0 1 (xs.map rI)], [.ar false 0 1 (ys.map rI)]])), (26, aI 2), (27, aI 0)], [(6, ⟨3, 1, []⟩)]⟩) ∨ (n = 1 ∧ σ = ⟨[(6, .one (.vw 3 1 6 [] 0 xs.length)), (25, .one (.ar false 0 1 [[.ar false 0 1 (xs.map rI)], [.ar false 0 1 (ys.map rI)]])), (26, aI 2), (27, aI 1)], [(6, ⟨3, 1, xs.map rI⟩)]⟩) ∨ (n = 0 ∧ σ = ⟨[(6, .one (.vw 3 1 6 [] 0 (xs.length + ys.length))), (25, .one (.ar false 0 1 [[.ar false 0 1 (xs.map rI)], [.ar false 0 1 (ys.map rI)]])), (26, aI 2), (27, aI 2)], [(6, ⟨3, 1, (xs ++ ys).map rI⟩)]⟩)) 2 (by simp) ?_
  rintro n σ (⟨rfl, rfl⟩ | ⟨rfl, rfl⟩ | ⟨rfl, rfl⟩)
  · simp [wa, hb1]
  · simp [wb, hb2]
  · simp
    rw [List.take_of_length_le (by simp), List.take_of_length_le (by simp)]
end Go.Am
-- Close
namespace Go.Am
open Go.Proofs
set_option maxHeartbeats 4000000
set_option maxRecDepth 100000
attribute [-simp] BitVec.toNat_or BitVec.toNat_and BitVec.toNat_ofInt
def clO (ps : Parts) (S W : List TConf) (m : Bool) : Obj := ⟨196, 4, [[.ar false 0 1 (ps.map sISS), .ar true 96 2 (S.map sConf), .ar true 96 2 (W.map sConf), .bool m]]⟩
def CloseP (ps : Parts) (init : List TConf) (r : A) (H : List (Nat × Obj)) : Prop := ∃ (S W : List TConf) (m : Bool), H = [(1000, clO ps S W m)] ∧ r = .tup [] ∧ Clo ps init [] S W m
def ClW (st W : List TConf) (m : Bool) : Nat := if m = true then 0 else 9 * (201 - W.length) + st.length
def CloseI (ps : Parts) (init : List TConf) (n : Nat) (σ : St) : Prop := ∃ (st S W : List TConf) (m : Bool), Clo ps init st S W m ∧ (∀ x ∈ st, x.row.length ≤ 300) ∧ st.length ≤ 9 * W.length + 1 ∧ n = ClW st W m ∧
  σ = ⟨[(0, .one (.pt 4 1000 [] 0 0)), (4, .one (.vw 96 2 4 [] 0 st.length))], [(4, ⟨96, 2, st.map sConf⟩), (1000, clO ps S W m)]⟩
-- 154 (*loop.example/g00485/impl.closer).close
def k_impl_closer_close : K :=
 .seq (
  .reg none [⟨(some 3), none, .box 96 2 (.t 1)⟩]) (
 .seq (
  .reg none [⟨(some 9), none, .ld 2 true (.t 3)⟩,
    ⟨(some 10), none, .bls 96 2 false [(.t 9)]⟩,
    ⟨(some 4), none, .asn (.t 10)⟩]) (
 .block 0 (
  .loop (some ([0, 4], [0, 4, 1000])) (
   .seq (
    .seq (
     .reg none [⟨(some 11), none, .mv (.t 4)⟩,
       ⟨(some 12), none, .len (.t 11)⟩,
       ⟨(some 13), none, .bin .gtr (.t 12) (.c (.int .i64 (0)))⟩,
       ⟨(some 14), none, .mv (.t 13)⟩,
       ⟨(some 15), (some (14, true)), .mv (.t 0)⟩,
       ⟨(some 16), (some (14, true)), .nil (.t 15)⟩,
       ⟨(some 17), (some (14, true)), .fad 3 (.t 16)⟩,
       ⟨(some 18), (some (14, true)), .ld 1 false (.t 17)⟩,
       ⟨(some 19), (some (14, true)), .not (.t 18)⟩,
       ⟨(some 20), none, .pick (.t 14) (.t 19) (.c (.bool false))⟩]) (
    .cond (.t 20) (
     .skip) (
     .exit 0))) (
   .block 1 (
    .seq (
     .reg none [⟨(some 21), none, .mv (.t 4)⟩,
       ⟨(some 22), none, .mv (.t 4)⟩,
       ⟨(some 23), none, .len (.t 22)⟩,
       ⟨(some 24), none, .bin .sub (.t 23) (.c (.int .i64 (1)))⟩,
       ⟨(some 25), none, .iad 2 (.t 21) (.t 24)⟩,
       ⟨(some 26), none, .ld 2 true (.t 25)⟩,
       ⟨(some 5), none, .alc 96 2 [(.int .i64 (0)), (.ar true 3 1 [])]⟩,
       ⟨none, none, .st 2 false (.t 5) (.t 26)⟩]) (
    .seq (
     .reg none [⟨(some 27), none, .mv (.t 4)⟩,
       ⟨(some 28), none, .mv (.t 4)⟩,
       ⟨(some 29), none, .len (.t 28)⟩,
       ⟨(some 30), none, .bin .sub (.t 29) (.c (.int .i64 (1)))⟩,
       ⟨(some 31), none, .slc 2 (.t 27) none (some (.t 30))⟩,
       ⟨(some 4), none, .asn (.t 31)⟩]) (
    .seq (
     .seq (
      .reg none [⟨(some 32), none, .fad 1 (.t 5)⟩,
        ⟨(some 33), none, .ld 1 false (.t 32)⟩,
        ⟨(some 34), none, .len (.t 33)⟩,
        ⟨(some 35), none, .bin .gtr (.t 34) (.c (.int .i64 (200)))⟩]) (
     .cond (.t 35) (
      .seq (
       .reg none [⟨(some 36), none, .mv (.t 0)⟩,
         ⟨(some 37), none, .nil (.t 36)⟩,
         ⟨(some 38), none, .fad 3 (.t 37)⟩,
         ⟨none, none, .st 1 false (.t 38) (.c (.bool true))⟩]) (
      .ret)) (
      .skip))) (
    .seq (
     .reg none [⟨(some 6), none, .asn (.c (.bool false))⟩]) (
    .seq (
     .seq (
      .reg none [⟨(some 39), none, .fad 1 (.t 5)⟩,
        ⟨(some 40), none, .ld 1 false (.t 39)⟩,
        ⟨(some 41), none, .len (.t 40)⟩,
        ⟨(some 42), none, .bin .eql (.t 41) (.c (.int .i64 (0)))⟩,
        ⟨(some 43), none, .mv (.t 42)⟩,
        ⟨(some 44), (some (43, false)), .fad 1 (.t 5)⟩,
        ⟨(some 45), (some (43, false)), .ld 1 false (.t 44)⟩,
        ⟨(some 46), (some (43, false)), .iad 1 (.t 45) (.c (.int .i64 (0)))⟩,
        ⟨(some 47), (some (43, false)), .ld 1 false (.t 46)⟩,
        ⟨(some 48), (some (43, false)), .bin .lss (.t 47) (.c (.int .i64 (100)))⟩,
        ⟨(some 49), none, .pick (.t 43) (.c (.bool true)) (.t 48)⟩]) (
     .cond (.t 49) (
      .seq (
       .drw none 0 [⟨(some 51), none, .mv (.t 0)⟩,
         ⟨(some 52), none, .mv (.t 0)⟩,
         ⟨(some 53), none, .nil (.t 52)⟩,
         ⟨(some 54), none, .fad 1 (.t 53)⟩,
         ⟨(some 55), none, .ld 1 false (.t 54)⟩,
         ⟨(some 56), none, .ld 2 true (.t 5)⟩,
         ⟨(some 57), none, .callo 181 1 [(.t 55), (.t 56)]⟩,
         ⟨(some 50), none, .mv (.t 57)⟩,
         ⟨(some 58), none, .ext 0 (.t 50)⟩,
         ⟨(some 59), none, .ext 1 (.t 50)⟩,
         ⟨(some 60), none, .nil (.t 51)⟩,
         ⟨(some 61), none, .fad 1 (.t 60)⟩,
         ⟨none, none, .st 1 false (.t 61) (.t 58)⟩]) (
      .seq (
       .reg none [⟨(some 62), none, .mv (.t 0)⟩,
         ⟨(some 63), none, .mv (.t 0)⟩,
         ⟨(some 64), none, .nil (.t 63)⟩,
         ⟨(some 65), none, .fad 1 (.t 64)⟩,
         ⟨(some 66), none, .ld 1 false (.t 65)⟩,
         ⟨(some 67), none, .len (.t 66)⟩,
         ⟨(some 68), none, .bin .gtr (.t 67) (.c (.int .i64 (30)))⟩,
         ⟨(some 69), none, .nil (.t 62)⟩,
         ⟨(some 70), none, .fad 3 (.t 69)⟩,
         ⟨none, none, .st 1 false (.t 70) (.t 68)⟩]) (
      .exit 1))) (
      .skip))) (
    .seq (
     .seq (
      .drw none 0 [⟨(some 72), none, .mv (.t 0)⟩,
        ⟨(some 73), none, .mv (.t 0)⟩,
        ⟨(some 74), none, .nil (.t 73)⟩,
        ⟨(some 75), none, .fad 2 (.t 74)⟩,
        ⟨(some 76), none, .ld 1 false (.t 75)⟩,
        ⟨(some 77), none, .ld 2 true (.t 5)⟩,
        ⟨(some 78), none, .callo 181 1 [(.t 76), (.t 77)]⟩,
        ⟨(some 71), none, .mv (.t 78)⟩,
        ⟨(some 79), none, .ext 0 (.t 71)⟩,
        ⟨(some 80), none, .ext 1 (.t 71)⟩,
        ⟨(some 81), none, .nil (.t 72)⟩,
        ⟨(some 82), none, .fad 2 (.t 81)⟩,
        ⟨none, none, .st 1 false (.t 82) (.t 79)⟩,
        ⟨(some 6), none, .asn (.t 80)⟩]) (
     .seq (
      .reg none [⟨(some 83), none, .mv (.t 6)⟩,
        ⟨(some 84), none, .not (.t 83)⟩]) (
     .cond (.t 84) (
      .exit 1) (
      .skip)))) (
    .seq (
     .reg none [⟨(some 85), none, .mv (.t 0)⟩,
       ⟨(some 86), none, .mv (.t 0)⟩,
       ⟨(some 87), none, .nil (.t 86)⟩,
       ⟨(some 88), none, .fad 2 (.t 87)⟩,
       ⟨(some 89), none, .ld 1 false (.t 88)⟩,
       ⟨(some 90), none, .len (.t 89)⟩,
       ⟨(some 91), none, .bin .gtr (.t 90) (.c (.int .i64 (200)))⟩,
       ⟨(some 92), none, .nil (.t 85)⟩,
       ⟨(some 93), none, .fad 3 (.t 92)⟩,
       ⟨none, none, .st 1 false (.t 93) (.t 91)⟩]) (
    .seq (
     .drw none 14 [⟨(some 94), none, .mv (.t 0)⟩,
       ⟨(some 95), none, .nil (.t 94)⟩,
       ⟨(some 96), none, .fad 0 (.t 95)⟩,
       ⟨(some 97), none, .fad 0 (.t 96)⟩,
       ⟨(some 98), none, .ld 1 false (.t 97)⟩,
       ⟨(some 99), none, .fad 1 (.t 5)⟩,
       ⟨(some 100), none, .ld 1 false (.t 99)⟩,
       ⟨(some 101), none, .iad 1 (.t 100) (.c (.int .i64 (0)))⟩,
       ⟨(some 102), none, .ld 1 false (.t 101)⟩,
       ⟨(some 103), none, .bin .sub (.t 102) (.c (.int .i64 (100)))⟩,
       ⟨(some 104), none, .iad 1 (.t 98) (.t 103)⟩,
       ⟨(some 105), none, .ld 1 false (.t 104)⟩,
       ⟨(some 106), none, .len (.t 105)⟩,
       ⟨(some 107), none, .mv (.c (.int .i64 (0)))⟩]) (
    .block 2 (
     .loop (some ([0, 4, 5, 105, 106, 107], [0, 4, 5, 1000])) (
      .seq (
       .reg none [⟨(some 108), none, .bin .lss (.t 107) (.t 106)⟩]) (
      .seq (
       .cond (.t 108) (
        .skip) (
        .exit 2)) (
      .seq (
       .block 3 (
        .seq (
         .reg none [⟨(some 109), none, .iad 1 (.t 105) (.t 107)⟩,
           ⟨(some 110), none, .ld 1 false (.t 109)⟩,
           ⟨(some 8), none, .asn (.t 110)⟩]) (
        .drw none 0 [⟨(some 111), none, .mv (.t 4)⟩,
          ⟨(some 112), none, .fad 0 (.t 5)⟩,
          ⟨(some 113), none, .ld 1 false (.t 112)⟩,
          ⟨(some 114), none, .mv (.t 8)⟩,
          ⟨(some 115), none, .fad 1 (.t 5)⟩,
          ⟨(some 116), none, .ld 1 false (.t 115)⟩,
          ⟨(some 117), none, .slc 1 (.t 116) (some (.c (.int .i64 (1)))) none⟩,
          ⟨(some 118), none, .bls 34 1 false [(.t 114), (.t 117)]⟩,
          ⟨(some 119), none, .call 115 [(.t 118)]⟩,
          ⟨(some 120), none, .bld true [(.int .i64 (0)), (.ar true 3 1 [])] [(0, 1, (.t 113)), (1, 1, (.t 119))]⟩,
          ⟨(some 121), none, .bls 96 2 false [(.t 120)]⟩,
          ⟨(some 122), none, .app 96 2 32 false (.t 111) (.t 121)⟩,
          ⟨(some 4), none, .asn (.t 122)⟩]))) (
      .reg none [⟨(some 123), none, .bin .add (.t 107) (.c (.int .i64 (1)))⟩,
        ⟨(some 107), none, .mv (.t 123)⟩])))))))))))))))))))
def r_impl_closer_close : Nat × List RV := (124, [])

theorem c_impl_closer_close : cmpS PT PF PC (Try.prog.funcs[154]?) = some (r_impl_closer_close.1, r_impl_closer_close.2, stripK k_impl_closer_close) := by kernel_rfl

theorem h_close (g : TGram) (hg : gramOk g = true) (hw : wGram g < 2 ^ 31) (init : List TConf) (hi : ∀ c ∈ init, c.row.all (symOk g.parts.length) = true) (c : TConf) (S W : List TConf) (m : Bool)
    (hC : Clo g.parts init [c] S W m) (hcl : c.row.length ≤ 300) :
    CallsA Try.prog 154 [.one (.pt 4 1000 [] 0 0), .agg (sConf c)] [(1000, clO g.parts S W m)] (CloseP g.parts init) := by
  have hfin : ∀ (S W : List TConf) (m : Bool), Clo g.parts init [] S W m → CloseP g.parts init (.tup []) [(1000, clO g.parts S W m)] := fun S W m h => ⟨S, W, m, rfl, rfl, h⟩
  generalize hQ : CloseP g.parts init = Q at *
  have hsym := fun (x : TConf) (h : Rch g.parts init x) => h.ok hg hi
  refine PrunC c_impl_closer_close (by simp [r_impl_closer_close]) (by simp) ?_
  unfold k_impl_closer_close r_impl_closer_close
  obtain ⟨c1, c2⟩ := c
  simp [sConf]
  refine awp_loop (CloseI g.parts init) (ClW [⟨c1, c2⟩] W m) ⟨[⟨c1, c2⟩], S, W, m, hC, by simpa using hcl, by simp, rfl, by simp [sConf]⟩ ?_
  clear hC hcl c1 c2 S W m
  rintro n σ ⟨st, S, W, m, hC, hcl, hsl, rfl, rfl⟩
  cases m with
  | true =>
    have hf := hfin S W true (hC.elim (fun h => by simp at h) fun h => .inr h)
    rcases List.eq_nil_or_concat st with rfl | ⟨st0, c, rfl⟩
    · simpa [clO] using hf
    · have : (0 : Int) < st0.length + 1 := by omega
      simp [clO, this]
      exact hf
  | false =>
  have hP : Part g.parts init st S W := hC.elim (fun h => h.2) fun h => by simp at h
  clear hC
  rcases List.eq_nil_or_concat st with rfl | ⟨st0, c, rfl⟩
  · have hf := hfin S W false (.inl ⟨rfl, hP⟩)
    simpa [clO] using hf
  rw [List.concat_eq_append] at *
  have hcl0 : ∀ x ∈ st0, x.row.length ≤ 300 := fun x hx => hcl x (by simp [hx])
  have hcl := hcl c (by simp)
  have hrc := hsym c (hP.rwt c (by simp))
  have hls := hP.ls
  have hlw := hP.lw
  have hinS := h_insert S c hP.ss (by omega) (fun x hx => by have := hP.lr x (.inl hx); simp only [wConf, wL_w0]; omega)
  have hinW := h_insert W c hP.sw (by omega) (fun x hx => by have := hP.lr x (.inr hx); simp only [wConf, wL_w0]; omega)
  have hst : st0.length ≤ 9 * W.length := by simp at hsl; omega
  have n2 : (st0.length : Int) < st0.length + 1 := by omega
  have n3 : (st0.length : Int) ≤ st0.length + 1 := by omega
  have n1 : (0 : Int) < st0.length + 1 := by omega
  have e1 : ((st0.length : Int) + 1 - 1) = st0.length := by omega
  have wst : IntKind.i64.wrap (st0.length : Int) = st0.length := wrapI (by omega) (by omega)
  obtain ⟨alt, row⟩ := c
  simp only [sConf] at hinS hinW
  have c1e : (200 < (row.length : Int)) = (200 < row.length) := by simp; omega
  have hget : ∀ (h : st0.length < (st0.map sConf ++ [[cI alt, .ar false 0 1 (row.map rI)]]).length), (st0.map sConf ++ [[cI alt, .ar false 0 1 (row.map rI)]])[st0.length] = [cI alt, .ar false 0 1 (row.map rI)] := fun h => by simp
  have hleaf : opn ⟨alt, row⟩ = false → row.length ≤ 200 → Clo g.parts init st0 (putC S ⟨alt, row⟩) W (decide ((30 : Int) < (putC S ⟨alt, row⟩).length)) := fun ho c1 => by
    by_cases h30 : (30 : Int) < (putC S ⟨alt, row⟩).length
    · simp only [h30, decide_true]; exact .inr ⟨rfl, hP.muchS ho (by omega)⟩
    · simp only [h30, decide_false]; exact .inl ⟨rfl, hP.stepS ho c1 (by omega)⟩
  have hold : TConf.mk alt row ∈ W → Part g.parts init st0 S W := fun h => hP.stepOld h
  have hnewM : opn ⟨alt, row⟩ = true → 200 < (putC W ⟨alt, row⟩).length → Much g.parts init S (putC W ⟨alt, row⟩) := fun ho h => hP.muchW ho h
  have hnewP : opn ⟨alt, row⟩ = true → row.length ≤ 200 → (putC W ⟨alt, row⟩).length ≤ 200 → Part g.parts init (st0 ++ kids g.parts ⟨alt, row⟩) S (putC W ⟨alt, row⟩) := fun ho c1 h => hP.stepW ho c1 h
  have hpo := @putC_old W ⟨alt, row⟩
  have hpn := @putC_new W ⟨alt, row⟩
  have hW0 : 9 * (201 - W.length) + st0.length < ClW (st0 ++ [⟨alt, row⟩]) W false := by simp [ClW]
  have hsl0 : st0.length ≤ 9 * W.length + 1 := by omega
  generalize hN : ClW (st0 ++ [⟨alt, row⟩]) W false = N at *
  have hW1 : ∀ m, ClW st0 W m < N := fun m => by cases m <;> simp [ClW] <;> omega
  have hmuch := fun (h : 200 < row.length) => hfin S W true (.inr ⟨rfl, hP.noMuch h⟩)
  by_cases c1 : row.length ≤ 200
  case neg =>
    have c1' : (200 : Int) < row.length := by omega
    have hf := hmuch (by omega)
    simp [clO, n1, e1, wst, sConf, n2, n3, c1']
    exact hf
  have c1' : ¬ (200 : Int) < row.length := by omega
  cases row with
  | nil =>
    have hl := hleaf rfl c1
    simp [clO, n1, e1, wst, sConf, n2, n3]
    refine callOG_F hinS (by simp) ?_
    simp
    exact ⟨_, hW1 _, st0, _, W, _, hl, hcl0, hsl0, rfl, by simp [clO]⟩
  | cons x r =>
    have c1'' : ¬ (200 : Int) < r.length + 1 := by simp at c1'; omega
    have n4 : ¬ (r.length : Int) + 1 = 0 := by omega
    by_cases c2 : x < 100
    · have hl := hleaf (by simp [opn]; omega) c1
      simp [clO, n1, e1, wst, sConf, n2, n3, c1'', c2, n4]
      refine callOG_F hinS (by simp) ?_
      simp
      exact ⟨_, hW1 _, st0, _, W, _, hl, hcl0, hsl0, rfl, by simp [clO]⟩
    · simp [clO, n1, e1, wst, sConf, n2, n3, c1'', c2, n4]
      refine callOG_F hinW (by simp) ?_
      by_cases hm : TConf.mk alt (x :: r) ∈ W
      · have ho := hold hm
        simp [hm, hpo hm]
        exact ⟨_, hW1 _, st0, S, W, false, .inl ⟨rfl, ho⟩, hcl0, hsl0, rfl, by simp [clO]⟩
      · have hln := hpn hm
        have ho : opn ⟨alt, x :: r⟩ = true := by simp [opn]; omega
        have hsx : symOk g.parts.length x = true := by simp only [List.all_cons, Bool.and_eq_true] at hrc; exact hrc.1
        have hgl := gram_len hg
        obtain ⟨hp1, hp2⟩ := sym_part hsx (by omega)
        have hkd := kids_cons (a := alt) (r := r) hp1 (by omega)
        have hpa := gram_alts hg hp1
        have hpl := @gram_row g hg _ hp1
        have hko := fun k hk => (kids_ok hg hrc ho hk (k := k)).2
        have wx : IntKind.i64.wrap (x - 100) = (prt x : Nat) := by have := sym_lt hgl.2 hsx; rw [wrapI (by omega) (by omega)]; omega
        have hnM := hnewM ho
        have hnP := hnewP ho c1
        simp only [hm, decide_false, Bool.not_false] at hinW
        simp [hm, wx, hp1, sISS]
        clear hinW hinS hleaf hold hnewM hnewP hmuch hW1
        generalize putC W ⟨alt, x :: r⟩ = W2 at *
        generalize hkk : kids g.parts ⟨alt, x :: r⟩ = ks at *
        obtain ⟨ps⟩ := g
        simp only at hp1 hkd hpa hpl
        generalize prt x = px at *
        generalize hal : ps[px] = al at *
        have hrl : r.length ≤ 199 := by simp at c1; omega
        have hkl : ks.length = al.length := by rw [hkd]; simp
        refine awp_loop (fun n σ => ∃ (i : Nat) (T : List TConf), i ≤ al.length ∧ n = al.length - i ∧ T = st0 ++ ks.take i ∧ σ = ⟨[(0, .one (.pt 4 1000 [] 0 0)), (4, .one (.vw 96 2 4 [] 0 T.length)), (5, .one (.pt 2 5 [] 0 0)), (105, .one (.ar false 0 1 (al.map sIS))), (106, aI al.length), (107, aI i)], [(4, ⟨96, 2, T.map sConf⟩), (5, ⟨96, 2, [[cI alt, .ar false 0 1 ((x :: r).map rI)]]⟩), (1000, clO ps S W2 (decide ((200 : Int) < W2.length)))]⟩) (al.length) ⟨0, st0, by omega, rfl, by simp, by simp [clO]⟩ ?_
        rintro m σ ⟨i, T, hi2, rfl, hT, rfl⟩
        by_cases h : i < al.length
        case neg =>
          have hk : ks.take i = ks := List.take_of_length_le (by omega)
          rw [hk] at hT
          subst hT
          simp [h]
          refine ⟨ClW (st0 ++ ks) W2 (decide ((200 : Int) < W2.length)), ?_, st0 ++ ks, S, W2, decide ((200 : Int) < W2.length), ?_, ?_, ?_, rfl, by simp⟩
          · by_cases h2 : (200 : Int) < W2.length
            · simp only [h2, decide_true]; simp [ClW]; omega
            · simp only [h2, decide_false]; simp [ClW]; omega
          · by_cases h2 : (200 : Int) < W2.length
            · simp only [h2, decide_true]; exact .inr ⟨rfl, hnM (by omega)⟩
            · simp only [h2, decide_false]; exact .inl ⟨rfl, hnP (by omega)⟩
          · intro y hy
            rcases List.mem_append.1 hy with hy | hy
            · exact hcl0 y hy
            · have := hko y hy; simp at this; simp at c1; omega
          · simp; omega
        have hk : ks.take (i + 1) = ks.take i ++ [⟨alt, al[i] ++ r⟩] := by
          rw [List.take_succ_eq_append_getElem (by omega)]
          simp [hkd]
        have hlr := (hpl (List.getElem_mem h)).1
        have hcc := h_concat al[i] r (by omega) (by omega)
        have wi : IntKind.i64.wrap ((i : Int) + 1) = i + 1 := wrapI (by omega) (by omega)
        generalize hrw : al[i] = row at *
        have n5 : (1 : Int) ≤ r.length + 1 := by omega
        have hTl : T.length = st0.length + i := by rw [hT]; simp; omega
        have hb : T.length + 1 ≤ 4294967296 := by omega
        have hmi : min (i + 1) ks.length = i + 1 := by omega
        simp [h, hrw, sIS, n5]
        refine callG_F hcc (by simp) ?_
        simp [hb]
        refine ⟨al.length - (i + 1), by omega, i + 1, by omega, rfl, ?_⟩
        rw [← List.map_take (i := i + 1), hk, wi, hmi, hTl]
        subst hT
        simp [sConf, Nat.add_assoc]
        rw [← List.map_append, shrs_rI]
end Go.Am
-- CopySet
namespace Go.Am
open Go.Proofs
set_option maxHeartbeats 4000000
set_option maxRecDepth 100000
attribute [-simp] BitVec.toNat_or BitVec.toNat_and BitVec.toNat_ofInt
attribute [-simp] rIS_len sIS_len shr_rIS shr_sIS shrs_rIS shrs_sIS noSh_rIS rISS_len sISS_len shr_rISS shr_sISS shrs_rISS shrs_sISS noSh_rISS rGram_len sGram_len shr_rGram shr_sGram shrs_rGram shrs_sGram noSh_rGram mGram_wr mGram_n
-- 155 loop.example/g00485/impl.copySet
def k_impl_copySet : K :=
 .seq (
  .reg none [⟨(some 2), none, .asn (.c (.ar true 96 2 []))⟩]) (
 .seq (
  .reg none [⟨(some 3), none, .asn (.c (.ar true 96 2 []))⟩]) (
 .seq (
  .seq (
   .reg none [⟨(some 6), none, .mv (.t 0)⟩,
     ⟨(some 7), none, .len (.t 6)⟩,
     ⟨(some 8), none, .mv (.c (.int .i64 (0)))⟩]) (
  .block 0 (
   .loop (some ([3, 6, 7, 8], [0, 3, 1000])) (
    .seq (
     .reg none [⟨(some 9), none, .bin .lss (.t 8) (.t 7)⟩]) (
    .seq (
     .cond (.t 9) (
      .skip) (
      .exit 0)) (
    .seq (
     .block 1 (
      .seq (
       .reg none [⟨(some 10), none, .iad 2 (.t 6) (.t 8)⟩,
         ⟨(some 11), none, .ld 2 true (.t 10)⟩,
         ⟨(some 5), none, .alc 96 2 [(.int .i64 (0)), (.ar true 3 1 [])]⟩,
         ⟨none, none, .st 2 false (.t 5) (.t 11)⟩]) (
      .drw none 0 [⟨(some 12), none, .mv (.t 3)⟩,
        ⟨(some 13), none, .fad 0 (.t 5)⟩,
        ⟨(some 14), none, .ld 1 false (.t 13)⟩,
        ⟨(some 15), none, .fad 1 (.t 5)⟩,
        ⟨(some 16), none, .ld 1 false (.t 15)⟩,
        ⟨(some 17), none, .call 124 [(.t 16)]⟩,
        ⟨(some 18), none, .bld false [(.int .i64 (0)), (.ar true 3 1 [])] [(0, 1, (.t 14)), (1, 1, (.t 17))]⟩,
        ⟨(some 19), none, .bls 96 2 false [(.t 18)]⟩,
        ⟨(some 20), none, .app 96 2 32 false (.t 12) (.t 19)⟩,
        ⟨(some 3), none, .asn (.t 20)⟩]))) (
    .reg none [⟨(some 21), none, .bin .add (.t 8) (.c (.int .i64 (1)))⟩,
      ⟨(some 8), none, .mv (.t 21)⟩]))))))) (
 .seq (
  .reg none [⟨(some 22), none, .mv (.t 3)⟩,
    ⟨(some 2), none, .asn (.t 22)⟩]) (
 .ret))))
def r_impl_copySet : Nat × List RV := (23, [.t 2])

theorem c_impl_copySet : cmpS PT PF PA (Try.prog.funcs[155]?) = some (r_impl_copySet.1, r_impl_copySet.2, stripK k_impl_copySet) := by kernel_rfl

theorem h_copySet (xs : List TConf) (hx : xs.length < 2 ^ 31) (hw : ∀ x ∈ xs, wConf x < 2 ^ 31) : CallsF Try.prog 155 [.one (.ar false 0 2 (xs.map sConf))] (.one (.ar true 96 2 (xs.map rConf))) := by
  refine Prun c_impl_copySet (by simp [r_impl_copySet]) (by simp) ?_
  unfold k_impl_copySet r_impl_copySet
  simp
  refine awp_loop (fun n σ => ∃ i : Nat, i ≤ xs.length ∧ n = xs.length - i ∧ σ = ⟨[(3, .one (.vw 96 2 3 [] 0 i)), (6, .one (.ar false 0 2 (xs.map sConf))), (7, aI xs.length), (8, aI i)], [(3, ⟨96, 2, (xs.take i).map rConf⟩)]⟩) (xs.length) ⟨0, by simp⟩ ?_
  rintro n σ ⟨i, hi, rfl, rfl⟩
  by_cases h : i < xs.length
  · have hwi := hw _ (List.getElem_mem h)
    obtain ⟨a, ha⟩ : ∃ a, xs[i] = a := ⟨_, rfl⟩
    rw [ha] at hwi
    have hT : (xs.take (i + 1)).map rConf = (xs.take i).map rConf ++ [rConf a] := by rw [List.take_succ_eq_append_getElem h]; simp [ha]
    rcases a with ⟨a1, a2⟩
    simp only [wConf, wL_w0] at hwi
    have hcl := h_clone_int a2 (by omega)
    have wi : IntKind.i64.wrap ((i : Int) + 1) = i + 1 := wrapI (by omega) (by omega)
    have hb : i + 1 ≤ 4294967296 := by omega
    have hi2 : min i xs.length = i := by omega
    simp [h, ha, sConf]
    first | refine callG_F hcl (by simp) ?_ | refine callOG_F hcl (by simp) ?_ | refine gcal_F hcl (by simp) ?_ | refine callRG_F hcl rfl rfl (by simp) (by simp) ?_ | refine ⟨_, by simp, hcl, ?_⟩
    try simp [hb, hi2]
    refine ⟨xs.length - (i + 1), by omega, i + 1, by omega, rfl, ?_⟩
    rw [← List.map_take (i := i + 1), hT, wi]
    simp [rConf, -List.map_take, List.take_take]
    simp
  · have : i = xs.length := by omega
    subst this
    simp
end Go.Am
-- Closed
namespace Go.Am
open Go.Proofs
set_option maxHeartbeats 4000000
set_option maxRecDepth 100000
attribute [-simp] BitVec.toNat_or BitVec.toNat_and BitVec.toNat_ofInt
-- 116 loop.example/g00485/impl.closed
def k_impl_closed : K :=
 .seq (
  .reg none [⟨(some 2), none, .box 39 1 (.t 0)⟩,
    ⟨(some 4), none, .asn (.c (.ar true 96 2 []))⟩,
    ⟨(some 5), none, .asn (.c (.bool false))⟩]) (
 .seq (
  .reg none [⟨(some 9), none, .ld 1 true (.t 2)⟩,
    ⟨(some 10), none, .bld false [(.ar true 90 1 []), (.ar true 96 2 []), (.ar true 96 2 []), (.bool false)] [(0, 1, (.t 9))]⟩,
    ⟨(some 6), none, .alc 196 4 [(.ar true 90 1 []), (.ar true 96 2 []), (.ar true 96 2 []), (.bool false)]⟩,
    ⟨none, none, .st 4 false (.t 6) (.t 10)⟩]) (
 .seq (
  .seq (
   .reg none [⟨(some 11), none, .mv (.t 1)⟩,
     ⟨(some 12), none, .len (.t 11)⟩,
     ⟨(some 13), none, .mv (.c (.int .i64 (0)))⟩]) (
  .block 0 (
   .loop (some ([6, 11, 12, 13], [1, 6, 1000])) (
    .seq (
     .reg none [⟨(some 14), none, .bin .lss (.t 13) (.t 12)⟩]) (
    .seq (
     .cond (.t 14) (
      .skip) (
      .exit 0)) (
    .seq (
     .block 1 (
      .seq (
       .reg none [⟨(some 15), none, .iad 2 (.t 11) (.t 13)⟩,
         ⟨(some 16), none, .ld 2 true (.t 15)⟩,
         ⟨(some 8), none, .alc 96 2 [(.int .i64 (0)), (.ar true 3 1 [])]⟩,
         ⟨none, none, .st 2 false (.t 8) (.t 16)⟩]) (
      .reg none [⟨(some 17), none, .ld 2 true (.t 8)⟩,
        ⟨(some 18), none, .callr 154 (.t 6) [(.t 6), (.t 17)]⟩]))) (
    .reg none [⟨(some 19), none, .bin .add (.t 13) (.c (.int .i64 (1)))⟩,
      ⟨(some 13), none, .mv (.t 19)⟩]))))))) (
 .seq (
  .seq (
   .reg none [⟨(some 20), none, .fad 3 (.t 6)⟩,
     ⟨(some 21), none, .ld 1 false (.t 20)⟩]) (
  .cond (.t 21) (
   .seq (
    .reg none [⟨(some 4), none, .asn (.c (.ar true 96 2 []))⟩,
      ⟨(some 5), none, .asn (.c (.bool false))⟩]) (
   .ret)) (
   .skip))) (
 .seq (
  .reg none [⟨(some 22), none, .fad 1 (.t 6)⟩,
    ⟨(some 23), none, .ld 1 false (.t 22)⟩,
    ⟨(some 24), none, .call 155 [(.t 23)]⟩,
    ⟨(some 4), none, .asn (.t 24)⟩,
    ⟨(some 5), none, .asn (.c (.bool true))⟩]) (
 .ret)))))
def r_impl_closed : Nat × List RV := (25, [.t 4, .t 5])

theorem c_impl_closed : cmpS PT PF PA (Try.prog.funcs[116]?) = some (r_impl_closed.1, r_impl_closed.2, stripK k_impl_closed) := by kernel_rfl

theorem closed_ok {ps : Parts} {cs : List TConf} (i : Nat) (h : i < cs.length) {S W : List TConf} {m : Bool} (hC : Clo ps (cs.take i) [] S W m) : Clo ps (cs.take (i + 1)) [cs[i]] S W m := by
  rw [List.take_succ_eq_append_getElem h]
  rcases hC with ⟨h1, h2⟩ | ⟨h1, h2⟩
  · exact .inl ⟨h1, h2.next cs[i]⟩
  · exact .inr ⟨h1, h2.mono fun x hx => List.mem_append_left _ hx⟩
noncomputable def closR (ps : Parts) (cs : List TConf) : A := match closO ps cs with
  | some S => .tup [(false, [.ar true 96 2 (S.map rConf)]), (false, [.bool true])]
  | none => .tup [(false, [.ar true 96 2 []]), (false, [.bool false])]
def ClosedI (ps : Parts) (cs : List TConf) (n : Nat) (σ : St) : Prop := ∃ (i : Nat) (S W : List TConf) (m : Bool), i ≤ cs.length ∧ n = cs.length - i ∧ Clo ps (cs.take i) [] S W m ∧
  σ = ⟨[(6, .one (.pt 4 6 [] 0 0)), (11, .one (.ar false 0 2 (cs.map sConf))), (12, aI cs.length), (13, aI i)], [(6, clO ps S W m)]⟩
theorem h_closed (g : TGram) (cs : List TConf) (hg : gramOk g = true) (hw : wGram g < 2 ^ 31) (hi : ∀ c ∈ cs, c.row.all (symOk g.parts.length) = true) (hl : ∀ c ∈ cs, c.row.length ≤ 300) (hn : cs.length < 2 ^ 31) :
    CallsF Try.prog 116 [.agg (sGram g), .one (.ar false 0 2 (cs.map sConf))] (closR g.parts cs) := by
  refine Prun c_impl_closed (by simp [r_impl_closed]) (by simp) ?_
  unfold k_impl_closed r_impl_closed
  have hcl := fun i (h : i < cs.length) S W m (hC : Clo g.parts (cs.take (i + 1)) [cs[i]] S W m) => h_close g hg hw (cs.take (i + 1)) (fun c hc => hi c (List.mem_of_mem_take hc)) cs[i] S W m hC (hl _ (List.getElem_mem h))
  obtain ⟨ps⟩ := g
  simp only at hcl
  simp [sGram]
  refine awp_loop (ClosedI ps cs) (cs.length) ⟨0, [], [], false, by omega, rfl, .inl ⟨rfl, Part.nil⟩, by simp [clO]⟩ ?_
  rintro n σ ⟨i, S, W, m, hi2, rfl, hC, rfl⟩
  by_cases h : i < cs.length
  case neg =>
    have hk : cs.take i = cs := List.take_of_length_le (by omega)
    rw [hk] at hC
    rcases hC with ⟨rfl, hP⟩ | ⟨rfl, hM⟩
    · have hd := hP.done
      have hcp := h_copySet S (by have := hP.ls; omega) (fun x hx => by have := hP.lr x (.inl hx); simp only [wConf, wL_w0]; omega)
      simp [h, clO]
      refine callG_F hcp (by simp) ?_
      simp [closR, closO_some hd]
    · simp [h, clO, closR, closO_none hM]
  have hcall := hcl i h S W m (closed_ok i h hC)
  have wi : IntKind.i64.wrap ((i : Int) + 1) = i + 1 := wrapI (by omega) (by omega)
  obtain ⟨c, hc⟩ : ∃ c, cs[i] = c := ⟨_, rfl⟩
  rw [hc] at hcall
  obtain ⟨c1, c2⟩ := c
  simp only [sConf, clO] at hcall
  simp [h, hc, sConf, clO]
  refine CallsA.mono hcall ?_
  rintro r1 H1 ⟨S3, W3, m3, rfl, rfl, hC3⟩
  refine ⟨_, rfl, rfl, rfl, .inl rfl, by simp, ?_⟩
  simp [clO]
  exact ⟨cs.length - (i + 1), by omega, i + 1, S3, W3, m3, by omega, rfl, hC3, by simp [wi, clO]⟩
end Go.Am
-- SpecPut
namespace Go.Am
open Go.Proofs
set_option maxHeartbeats 4000000
set_option maxRecDepth 100000
attribute [-simp] BitVec.toNat_or BitVec.toNat_and BitVec.toNat_ofInt
def putR (xs : List TConf) (c : TConf) : C := if c ∈ xs then .ar false 0 2 (xs.map sConf) else .ar true 96 2 ((putC xs c).map sConf)
theorem atC_iff {l : List TConf} {x : TConf} (hs : srtC l) : ∀ j, (hj : j < l.length) → (0 < ordC l[j] x ↔ atC l x ≤ j) := by
  intro j hj
  constructor
  · intro hc
    rcases Nat.lt_or_ge j (atC l x) with h1 | h1
    · have := List.not_of_lt_findIdx (p := fun y => decide (0 < ordC y x)) (xs := l) h1
      simp at this
      omega
    · exact h1
  · intro h1
    have hq : atC l x < l.length := by omega
    have h2 : decide (0 < ordC l[atC l x] x) = true := List.findIdx_getElem (p := fun y => decide (0 < ordC y x)) (xs := l) (w := hq)
    have h2 := of_decide_eq_true h2
    by_cases e : atC l x = j
    · simp only [e] at h2; exact h2
    · have h3 : ordC l[atC l x] l[j] < 0 := List.pairwise_iff_getElem.1 hs _ _ hq hj (by omega)
      have h4 := ordC_neg x l[atC l x]
      have h5 := ordC_neg l[j] x
      have := ordC_trans (a := x) (b := l[atC l x]) (c := l[j]) (by omega) h3
      omega
-- 110 loop.example/g00485/spec.l11Put
def k_spec_l11Put : K :=
 .seq (
  .reg none [⟨(some 3), none, .box 96 2 (.t 1)⟩,
    ⟨(some 4), none, .asn (.c (.ar true 96 2 []))⟩]) (
 .seq (
  .reg none [⟨(some 9), none, .mv (.t 0)⟩,
    ⟨(some 10), none, .len (.t 9)⟩,
    ⟨(some 5), none, .asn (.t 10)⟩]) (
 .seq (
  .seq (
   .reg none [⟨(some 11), none, .mv (.t 0)⟩,
     ⟨(some 12), none, .len (.t 11)⟩,
     ⟨(some 13), none, .bin .sub (.t 12) (.c (.int .i64 (1)))⟩,
     ⟨(some 6), none, .asn (.t 13)⟩]) (
  .block 0 (
   .loop (some ([0, 3, 5, 6], [0, 3, 5, 6, 1000])) (
    .seq (
     .seq (
      .reg none [⟨(some 14), none, .mv (.t 6)⟩,
        ⟨(some 15), none, .bin .geq (.t 14) (.c (.int .i64 (0)))⟩]) (
     .cond (.t 15) (
      .skip) (
      .exit 0))) (
    .seq (
     .block 1 (
      .seq (
       .drw none 6 [⟨(some 18), none, .mv (.t 0)⟩,
         ⟨(some 19), none, .mv (.t 6)⟩,
         ⟨(some 20), none, .iad 2 (.t 18) (.t 19)⟩,
         ⟨(some 21), none, .ld 2 true (.t 20)⟩,
         ⟨(some 22), none, .ld 2 true (.t 3)⟩,
         ⟨(some 23), none, .call 133 [(.t 21), (.t 22)]⟩,
         ⟨(some 7), none, .asn (.t 23)⟩]) (
      .seq (
       .seq (
        .reg none [⟨(some 24), none, .mv (.t 7)⟩,
          ⟨(some 25), none, .bin .eql (.t 24) (.c (.int .i64 (0)))⟩]) (
       .cond (.t 25) (
        .seq (
         .reg none [⟨(some 26), none, .mv (.t 0)⟩,
           ⟨(some 4), none, .asn (.t 26)⟩]) (
        .ret)) (
        .skip))) (
      .seq (
       .reg none [⟨(some 27), none, .mv (.t 7)⟩,
         ⟨(some 28), none, .bin .gtr (.t 27) (.c (.int .i64 (0)))⟩]) (
      .cond (.t 28) (
       .reg none [⟨(some 29), none, .mv (.t 6)⟩,
         ⟨(some 5), none, .asn (.t 29)⟩]) (
       .skip)))))) (
    .reg none [⟨(some 16), none, .mv (.t 6)⟩,
      ⟨(some 17), none, .bin .sub (.t 16) (.c (.int .i64 (1)))⟩,
      ⟨(some 6), none, .asn (.t 17)⟩])))))) (
 .seq (
  .reg none [⟨(some 30), none, .bls 96 2 false []⟩,
    ⟨(some 31), none, .mv (.t 0)⟩,
    ⟨(some 32), none, .mv (.t 5)⟩,
    ⟨(some 33), none, .slc 2 (.t 31) none (some (.t 32))⟩,
    ⟨(some 34), none, .app 96 2 32 false (.t 30) (.t 33)⟩,
    ⟨(some 8), none, .asn (.t 34)⟩]) (
 .seq (
  .drw none 0 [⟨(some 35), none, .mv (.t 8)⟩,
    ⟨(some 36), none, .fad 0 (.t 3)⟩,
    ⟨(some 37), none, .ld 1 false (.t 36)⟩,
    ⟨(some 39), none, .fad 1 (.t 3)⟩,
    ⟨(some 40), none, .ld 1 false (.t 39)⟩,
    ⟨(some 38), none, .bls 3 1 false []⟩,
    ⟨(some 41), none, .app 3 1 8 false (.t 38) (.t 40)⟩,
    ⟨(some 42), none, .bld true [(.int .i64 (0)), (.ar true 3 1 [])] [(0, 1, (.t 37)), (1, 1, (.t 41))]⟩,
    ⟨(some 43), none, .bls 96 2 false [(.t 42)]⟩,
    ⟨(some 44), none, .app 96 2 32 false (.t 35) (.t 43)⟩,
    ⟨(some 8), none, .asn (.t 44)⟩]) (
 .seq (
  .reg none [⟨(some 45), none, .mv (.t 8)⟩,
    ⟨(some 46), none, .mv (.t 0)⟩,
    ⟨(some 47), none, .mv (.t 5)⟩,
    ⟨(some 48), none, .slc 2 (.t 46) (some (.t 47)) none⟩,
    ⟨(some 49), none, .app 96 2 32 false (.t 45) (.t 48)⟩,
    ⟨(some 4), none, .asn (.t 49)⟩]) (
 .ret))))))
def r_spec_l11Put : Nat × List RV := (50, [.t 4])

theorem c_spec_l11Put : cmpS PT PF PC (Try.prog.funcs[110]?) = some (r_spec_l11Put.1, r_spec_l11Put.2, stripK k_spec_l11Put) := by kernel_rfl

theorem h_spec_l11Put (xs : List TConf) (c : TConf) (hs : srtC xs) (hx : xs.length < 2 ^ 30) (hw : ∀ x ∈ xs, wConf x < 2 ^ 31) (hc : wConf c < 2 ^ 31) : CallsF Try.prog 110 [.one (.ar false 0 2 (xs.map sConf)), .agg (sConf c)] (.one (putR xs c)) := by
  refine PrunCF c_spec_l11Put (by simp [r_spec_l11Put]) (by simp) ?_
  unfold k_spec_l11Put r_spec_l11Put
  have hcmp : ∀ i (h : i < xs.length), _ := fun i h => h_spec_l11Cmp xs[i] c (by have := hw _ (List.getElem_mem h); omega)
  have hat := atC_iff (x := c) hs
  have hle := atC_le xs c
  have hmem : ∀ i (h : i < xs.length), ordC xs[i] c = 0 → c ∈ xs := fun i h e => by rw [← ordC_eq.1 e]; exact List.getElem_mem h
  have hnot : (∀ j (h : j < xs.length), ordC xs[j] c ≠ 0) → c ∉ xs := fun hn hm => by
    obtain ⟨j, hj, e⟩ := List.mem_iff_getElem.1 hm
    exact hn j hj (ordC_eq.2 e)
  have hput : c ∉ xs → putC xs c = xs.take (atC xs c) ++ [c] ++ xs.drop (atC xs c) := fun h => by unfold putC; rw [if_neg h]
  have w1 : IntKind.i64.wrap ((xs.length : Int) - 1) = xs.length - 1 := wrapI (by omega) (by omega)
  obtain ⟨c1, c2⟩ := c
  simp only [sConf] at hcmp
  simp only [wConf, wL_w0] at hc
  generalize hq : atC xs ⟨c1, c2⟩ = q at *
  simp [sConf, w1]
  refine awp_loop (fun n σ => ∃ i a : Nat, i ≤ xs.length ∧ n = i ∧ a = max q i ∧ (∀ j (h : j < xs.length), i ≤ j → ordC xs[j] ⟨c1, c2⟩ ≠ 0) ∧ σ = ⟨[(0, .one (.ar false 0 2 (xs.map sConf))), (3, .one (.pt 2 3 [] 0 0)), (5, aI a), (6, aI ((i : Int) - 1))], [(3, ⟨96, 2, [[cI c1, .ar false 0 1 (c2.map rI)]]⟩)]⟩) (xs.length) ⟨xs.length, xs.length, by omega, rfl, by omega, by omega, by simp⟩ ?_
  rintro n σ ⟨i, a, hi, rfl, hia, hne, rfl⟩
  by_cases h : 0 < n
  · obtain ⟨m, rfl⟩ : ∃ m, n = m + 1 := ⟨n - 1, by omega⟩
    have hm : m < xs.length := by omega
    have h' : (0 : Int) ≤ ((m + 1 : Nat) : Int) - 1 := by omega
    have e1 : ((m + 1 : Nat) : Int) - 1 = m := by omega
    have wm : IntKind.i64.wrap ((m : Int) - 1) = m - 1 := wrapI (by omega) (by omega)
    have hcm := hcmp m hm
    have ham := hat m hm
    have hmm := hmem m hm
    have hnm := fun e => hne m hm e
    obtain ⟨y, ha⟩ : ∃ y, xs[m] = y := ⟨_, rfl⟩
    rw [ha] at hcm ham hmm
    have hstep : ordC y ⟨c1, c2⟩ ≠ 0 → ∀ j (h : j < xs.length), m ≤ j → ordC xs[j] ⟨c1, c2⟩ ≠ 0 := fun hz j hj hmj => by
      by_cases e : m = j
      · subst e; rw [ha]; exact hz
      · exact hne j hj (by omega)
    rcases y with ⟨a1, a2⟩
    rw [e1]
    simp [hm, ha, sConf]
    first | refine callG_F hcm (by simp) ?_ | refine callOG_F hcm (by simp) ?_ | refine gcal_F hcm (by simp) ?_ | refine callRG_F hcm rfl rfl (by simp) (by simp) ?_ | refine ⟨_, by simp, hcm, ?_⟩
    try simp
    by_cases d : ordC ⟨a1, a2⟩ ⟨c1, c2⟩ = 0
    · simp [d, putR, hmm d]
    · have hst := hstep d
      by_cases d2 : 0 < ordC ⟨a1, a2⟩ ⟨c1, c2⟩
      · have := ham.1 d2
        have e2 : max q m = m := by omega
        simp [d, d2, wm]
        refine ⟨m, by omega, m, by omega, rfl, ?_⟩
        exact ⟨hst, by omega⟩
      · have : ¬ q ≤ m := fun h => d2 (ham.2 h)
        have e2 : max q m = q := by omega
        have e3 : max q (m + 1) = q := by omega
        simp [d, d2, wm]
        refine ⟨m, by omega, m, by omega, rfl, ?_⟩
        exact ⟨hst, by omega⟩
  · have hn0 : n = 0 := by omega
    subst hn0
    have haq : a = q := by omega
    subst haq
    have hnm := hnot fun j hj => hne j hj (Nat.zero_le _)
    have hb1 : a ≤ 4294967296 := by omega
    have hb2 : a + 1 ≤ 4294967296 := by omega
    have hb3 : c2.length ≤ 4294967296 := by omega
    have hb5 : a + 1 + (xs.length - a) ≤ 4294967296 := by omega
    simp [putR, hnm, hput hnm, hb1, hb2, hb3, hb5, hle]
    rw [List.take_of_length_le (by simp; omega), List.take_take]
    simp [sConf]
    rw [List.take_of_length_le (by simp; omega)]
    simp
end Go.Am
