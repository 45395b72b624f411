/- PROVED: the program's HouseSame returns what the reference's returns, for all arguments. -/
import Derived.Test.YtfcbminodkjklaaGreatHouseSame1
import Derived.Test.YtfcbminodkjklaaGreatRows
import Derived.ProofKit
set_option linter.unusedVariables false
set_option linter.unusedSimpArgs false
-- Gram_eq
namespace Go.Am
open Go.Proofs
set_option maxHeartbeats 4000000
set_option maxRecDepth 100000
-- 46 loop.example/g00485/laws.eqGramS
def k_laws_eqGramS : K :=
 .seq (
  .reg none [⟨(some 4), none, .asn (.c (.bool false))⟩]) (
 .seq (
  .seq (
   .reg none [⟨(some 6), none, .mv (.t 0)⟩,
     ⟨(some 7), none, .len (.t 6)⟩,
     ⟨(some 8), none, .mv (.t 1)⟩,
     ⟨(some 9), none, .len (.t 8)⟩,
     ⟨(some 10), none, .bin .neq (.t 7) (.t 9)⟩]) (
  .cond (.t 10) (
   .seq (
    .reg none [⟨(some 4), none, .asn (.c (.bool false))⟩]) (
   .ret)) (
   .skip))) (
 .seq (
  .seq (
   .reg none [⟨(some 5), none, .asn (.c (.int .i64 (0)))⟩]) (
  .block 0 (
   .loop (some ([0, 1, 5], [0, 1, 5, 1000])) (
    .seq (
     .seq (
      .reg none [⟨(some 11), none, .mv (.t 5)⟩,
        ⟨(some 12), none, .mv (.t 0)⟩,
        ⟨(some 13), none, .len (.t 12)⟩,
        ⟨(some 14), none, .bin .lss (.t 11) (.t 13)⟩]) (
     .cond (.t 14) (
      .skip) (
      .exit 0))) (
    .seq (
     .block 1 (
      .seq (
       .drw none 10 [⟨(some 17), none, .mv (.t 0)⟩,
         ⟨(some 18), none, .mv (.t 5)⟩,
         ⟨(some 19), none, .iad 1 (.t 17) (.t 18)⟩,
         ⟨(some 20), none, .ld 1 true (.t 19)⟩,
         ⟨(some 21), none, .mv (.t 1)⟩,
         ⟨(some 22), none, .mv (.t 5)⟩,
         ⟨(some 23), none, .iad 1 (.t 21) (.t 22)⟩,
         ⟨(some 24), none, .ld 1 true (.t 23)⟩,
         ⟨(some 25), none, .call 16 [(.t 20), (.t 24)]⟩,
         ⟨(some 26), none, .not (.t 25)⟩]) (
      .cond (.t 26) (
       .seq (
        .reg none [⟨(some 4), none, .asn (.c (.bool false))⟩]) (
       .ret)) (
       .skip)))) (
    .reg none [⟨(some 15), none, .mv (.t 5)⟩,
      ⟨(some 16), none, .bin .add (.t 15) (.c (.int .i64 (1)))⟩,
      ⟨(some 5), none, .asn (.t 16)⟩])))))) (
 .seq (
  .reg none [⟨(some 4), none, .asn (.c (.bool true))⟩]) (
 .ret))))
def r_laws_eqGramS : Nat × List RV := (27, [.t 4])

theorem c_laws_eqGramS : cmpS PT PF PA (Tryz.prog.funcs[46]?) = some (r_laws_eqGramS.1, r_laws_eqGramS.2, stripK k_laws_eqGramS) := by kernel_rfl

theorem h_eqGramS (xs : List TGram) (hx : wL wGram xs < 2 ^ 40) : CallsF Tryz.prog 46 [.one (.ar false 0 1 (xs.map sGram)), .one (.ar false 0 1 (xs.map sGram))] (aB true) := by
  refine Prun c_laws_eqGramS (by simp [r_laws_eqGramS]) (by simp) ?_
  unfold k_laws_eqGramS r_laws_eqGramS
  have hlen := wL_len wGram xs
  simp
  refine awp_loop (fun n σ => ∃ i : Nat, i ≤ xs.length ∧ n = xs.length - i ∧ σ = ⟨[(0, .one (.ar false 0 1 (xs.map sGram))), (1, .one (.ar false 0 1 (xs.map sGram))), (5, aI i)], []⟩) (xs.length) ⟨0, by simp⟩ ?_
  rintro n σ ⟨i, hi, rfl, rfl⟩
  by_cases h : i < xs.length
  · have hw := wL_get wGram xs i h
    simp [h, sGram]
    refine ⟨_, by simp, h_eqGram xs[i] (by omega), ?_⟩
    simp
    refine ⟨xs.length - (i + 1), by omega, i + 1, by omega, rfl, ?_⟩
    rw [wrapI (by omega) (by omega)]
    simp
  · simp [h]
end Go.Am
-- Conf_eq1
namespace Go.Am
open Go.Proofs
set_option maxHeartbeats 4000000
set_option maxRecDepth 100000
-- 64 loop.example/g00485/laws.eqConf
def k_laws_eqConf : K :=
 .seq (
  .reg none [⟨(some 2), none, .box 103 2 (.t 0)⟩,
    ⟨(some 3), none, .box 103 2 (.t 1)⟩,
    ⟨(some 4), none, .asn (.c (.bool false))⟩]) (
 .seq (
  .seq (
   .reg none [⟨(some 5), none, .fad 0 (.t 2)⟩,
     ⟨(some 6), none, .ld 1 false (.t 5)⟩,
     ⟨(some 7), none, .fad 0 (.t 3)⟩,
     ⟨(some 8), none, .ld 1 false (.t 7)⟩,
     ⟨(some 9), none, .bin .neq (.t 6) (.t 8)⟩]) (
  .cond (.t 9) (
   .seq (
    .reg none [⟨(some 4), none, .asn (.c (.bool false))⟩]) (
   .ret)) (
   .skip))) (
 .seq (
  .seq (
   .reg none [⟨(some 10), none, .fad 1 (.t 2)⟩,
     ⟨(some 11), none, .ld 1 false (.t 10)⟩,
     ⟨(some 12), none, .fad 1 (.t 3)⟩,
     ⟨(some 13), none, .ld 1 false (.t 12)⟩,
     ⟨(some 14), none, .call 17 [(.t 11), (.t 13)]⟩,
     ⟨(some 15), none, .not (.t 14)⟩]) (
  .cond (.t 15) (
   .seq (
    .reg none [⟨(some 4), none, .asn (.c (.bool false))⟩]) (
   .ret)) (
   .skip))) (
 .seq (
  .reg none [⟨(some 4), none, .asn (.c (.bool true))⟩]) (
 .ret))))
def r_laws_eqConf : Nat × List RV := (16, [.t 4])

theorem c_laws_eqConf : cmpS PT PF PA (Tryz.prog.funcs[64]?) = some (r_laws_eqConf.1, r_laws_eqConf.2, stripK k_laws_eqConf) := by kernel_rfl

theorem h_eqConf (a : TConf) (ha : wConf a < 2 ^ 40) : CallsF Tryz.prog 64 [.agg (sConf a), .agg (sConf a)] (aB true) := by
  refine Prun c_laws_eqConf (by simp [r_laws_eqConf]) (by simp) ?_
  unfold k_laws_eqConf r_laws_eqConf
  simp only [wConf] at ha
  simp [sConf]
  refine callG_F (h_eqIntS a.row (by omega)) (by simp) ?_
  simp
end Go.Am
-- Conf_eq
namespace Go.Am
open Go.Proofs
set_option maxHeartbeats 4000000
set_option maxRecDepth 100000
-- 24 loop.example/g00485/laws.eqConfS
def k_laws_eqConfS : K :=
 .seq (
  .reg none [⟨(some 4), none, .asn (.c (.bool false))⟩]) (
 .seq (
  .seq (
   .reg none [⟨(some 6), none, .mv (.t 0)⟩,
     ⟨(some 7), none, .len (.t 6)⟩,
     ⟨(some 8), none, .mv (.t 1)⟩,
     ⟨(some 9), none, .len (.t 8)⟩,
     ⟨(some 10), none, .bin .neq (.t 7) (.t 9)⟩]) (
  .cond (.t 10) (
   .seq (
    .reg none [⟨(some 4), none, .asn (.c (.bool false))⟩]) (
   .ret)) (
   .skip))) (
 .seq (
  .seq (
   .reg none [⟨(some 5), none, .asn (.c (.int .i64 (0)))⟩]) (
  .block 0 (
   .loop (some ([0, 1, 5], [0, 1, 5, 1000])) (
    .seq (
     .seq (
      .reg none [⟨(some 11), none, .mv (.t 5)⟩,
        ⟨(some 12), none, .mv (.t 0)⟩,
        ⟨(some 13), none, .len (.t 12)⟩,
        ⟨(some 14), none, .bin .lss (.t 11) (.t 13)⟩]) (
     .cond (.t 14) (
      .skip) (
      .exit 0))) (
    .seq (
     .block 1 (
      .seq (
       .drw none 10 [⟨(some 17), none, .mv (.t 0)⟩,
         ⟨(some 18), none, .mv (.t 5)⟩,
         ⟨(some 19), none, .iad 2 (.t 17) (.t 18)⟩,
         ⟨(some 20), none, .ld 2 true (.t 19)⟩,
         ⟨(some 21), none, .mv (.t 1)⟩,
         ⟨(some 22), none, .mv (.t 5)⟩,
         ⟨(some 23), none, .iad 2 (.t 21) (.t 22)⟩,
         ⟨(some 24), none, .ld 2 true (.t 23)⟩,
         ⟨(some 25), none, .call 64 [(.t 20), (.t 24)]⟩,
         ⟨(some 26), none, .not (.t 25)⟩]) (
      .cond (.t 26) (
       .seq (
        .reg none [⟨(some 4), none, .asn (.c (.bool false))⟩]) (
       .ret)) (
       .skip)))) (
    .reg none [⟨(some 15), none, .mv (.t 5)⟩,
      ⟨(some 16), none, .bin .add (.t 15) (.c (.int .i64 (1)))⟩,
      ⟨(some 5), none, .asn (.t 16)⟩])))))) (
 .seq (
  .reg none [⟨(some 4), none, .asn (.c (.bool true))⟩]) (
 .ret))))
def r_laws_eqConfS : Nat × List RV := (27, [.t 4])

theorem c_laws_eqConfS : cmpS PT PF PA (Tryz.prog.funcs[24]?) = some (r_laws_eqConfS.1, r_laws_eqConfS.2, stripK k_laws_eqConfS) := by kernel_rfl

theorem h_eqConfS (xs : List TConf) (hx : wL wConf xs < 2 ^ 40) : CallsF Tryz.prog 24 [.one (.ar false 0 2 (xs.map sConf)), .one (.ar false 0 2 (xs.map sConf))] (aB true) := by
  refine Prun c_laws_eqConfS (by simp [r_laws_eqConfS]) (by simp) ?_
  unfold k_laws_eqConfS r_laws_eqConfS
  have hlen := wL_len wConf xs
  simp
  refine awp_loop (fun n σ => ∃ i : Nat, i ≤ xs.length ∧ n = xs.length - i ∧ σ = ⟨[(0, .one (.ar false 0 2 (xs.map sConf))), (1, .one (.ar false 0 2 (xs.map sConf))), (5, aI i)], []⟩) (xs.length) ⟨0, by simp⟩ ?_
  rintro n σ ⟨i, hi, rfl, rfl⟩
  by_cases h : i < xs.length
  · have hw := wL_get wConf xs i h
    simp [h, sConf]
    refine ⟨_, by simp, h_eqConf xs[i] (by omega), ?_⟩
    simp
    refine ⟨xs.length - (i + 1), by omega, i + 1, by omega, rfl, ?_⟩
    rw [wrapI (by omega) (by omega)]
    simp
  · simp [h]
end Go.Am
-- Line_eq1
namespace Go.Am
open Go.Proofs
set_option maxHeartbeats 4000000
set_option maxRecDepth 100000
-- 108 loop.example/g00485/laws.eqLine
def k_laws_eqLine : K :=
 .seq (
  .reg none [⟨(some 2), none, .box 118 3 (.t 0)⟩,
    ⟨(some 3), none, .box 118 3 (.t 1)⟩,
    ⟨(some 4), none, .asn (.c (.bool false))⟩]) (
 .seq (
  .seq (
   .reg none [⟨(some 5), none, .fad 0 (.t 2)⟩,
     ⟨(some 6), none, .ld 1 false (.t 5)⟩,
     ⟨(some 7), none, .fad 0 (.t 3)⟩,
     ⟨(some 8), none, .ld 1 false (.t 7)⟩,
     ⟨(some 9), none, .call 24 [(.t 6), (.t 8)]⟩,
     ⟨(some 10), none, .not (.t 9)⟩]) (
  .cond (.t 10) (
   .seq (
    .reg none [⟨(some 4), none, .asn (.c (.bool false))⟩]) (
   .ret)) (
   .skip))) (
 .seq (
  .seq (
   .reg none [⟨(some 11), none, .fad 1 (.t 2)⟩,
     ⟨(some 12), none, .ld 1 false (.t 11)⟩,
     ⟨(some 13), none, .fad 1 (.t 3)⟩,
     ⟨(some 14), none, .ld 1 false (.t 13)⟩,
     ⟨(some 15), none, .bin .neq (.t 12) (.t 14)⟩]) (
  .cond (.t 15) (
   .seq (
    .reg none [⟨(some 4), none, .asn (.c (.bool false))⟩]) (
   .ret)) (
   .skip))) (
 .seq (
  .seq (
   .reg none [⟨(some 16), none, .fad 2 (.t 2)⟩,
     ⟨(some 17), none, .ld 1 false (.t 16)⟩,
     ⟨(some 18), none, .fad 2 (.t 3)⟩,
     ⟨(some 19), none, .ld 1 false (.t 18)⟩,
     ⟨(some 20), none, .call 24 [(.t 17), (.t 19)]⟩,
     ⟨(some 21), none, .not (.t 20)⟩]) (
  .cond (.t 21) (
   .seq (
    .reg none [⟨(some 4), none, .asn (.c (.bool false))⟩]) (
   .ret)) (
   .skip))) (
 .seq (
  .reg none [⟨(some 4), none, .asn (.c (.bool true))⟩]) (
 .ret)))))
def r_laws_eqLine : Nat × List RV := (22, [.t 4])

theorem c_laws_eqLine : cmpS PT PF PA (Tryz.prog.funcs[108]?) = some (r_laws_eqLine.1, r_laws_eqLine.2, stripK k_laws_eqLine) := by kernel_rfl

theorem h_eqLine (a : TLine) (ha : wLine a < 2 ^ 40) : CallsF Tryz.prog 108 [.agg (sLine a), .agg (sLine a)] (aB true) := by
  refine Prun c_laws_eqLine (by simp [r_laws_eqLine]) (by simp) ?_
  unfold k_laws_eqLine r_laws_eqLine
  simp only [wLine] at ha
  simp [sLine]
  refine callG_F (h_eqConfS a.frm (by omega)) (by simp) ?_
  simp
  refine callG_F (h_eqConfS a.too (by omega)) (by simp) ?_
  simp
end Go.Am
-- Line_eq
namespace Go.Am
open Go.Proofs
set_option maxHeartbeats 4000000
set_option maxRecDepth 100000
-- 65 loop.example/g00485/laws.eqLineS
def k_laws_eqLineS : K :=
 .seq (
  .reg none [⟨(some 4), none, .asn (.c (.bool false))⟩]) (
 .seq (
  .seq (
   .reg none [⟨(some 6), none, .mv (.t 0)⟩,
     ⟨(some 7), none, .len (.t 6)⟩,
     ⟨(some 8), none, .mv (.t 1)⟩,
     ⟨(some 9), none, .len (.t 8)⟩,
     ⟨(some 10), none, .bin .neq (.t 7) (.t 9)⟩]) (
  .cond (.t 10) (
   .seq (
    .reg none [⟨(some 4), none, .asn (.c (.bool false))⟩]) (
   .ret)) (
   .skip))) (
 .seq (
  .seq (
   .reg none [⟨(some 5), none, .asn (.c (.int .i64 (0)))⟩]) (
  .block 0 (
   .loop (some ([0, 1, 5], [0, 1, 5, 1000])) (
    .seq (
     .seq (
      .reg none [⟨(some 11), none, .mv (.t 5)⟩,
        ⟨(some 12), none, .mv (.t 0)⟩,
        ⟨(some 13), none, .len (.t 12)⟩,
        ⟨(some 14), none, .bin .lss (.t 11) (.t 13)⟩]) (
     .cond (.t 14) (
      .skip) (
      .exit 0))) (
    .seq (
     .block 1 (
      .seq (
       .drw none 10 [⟨(some 17), none, .mv (.t 0)⟩,
         ⟨(some 18), none, .mv (.t 5)⟩,
         ⟨(some 19), none, .iad 3 (.t 17) (.t 18)⟩,
         ⟨(some 20), none, .ld 3 true (.t 19)⟩,
         ⟨(some 21), none, .mv (.t 1)⟩,
         ⟨(some 22), none, .mv (.t 5)⟩,
         ⟨(some 23), none, .iad 3 (.t 21) (.t 22)⟩,
         ⟨(some 24), none, .ld 3 true (.t 23)⟩,
         ⟨(some 25), none, .call 108 [(.t 20), (.t 24)]⟩,
         ⟨(some 26), none, .not (.t 25)⟩]) (
      .cond (.t 26) (
       .seq (
        .reg none [⟨(some 4), none, .asn (.c (.bool false))⟩]) (
       .ret)) (
       .skip)))) (
    .reg none [⟨(some 15), none, .mv (.t 5)⟩,
      ⟨(some 16), none, .bin .add (.t 15) (.c (.int .i64 (1)))⟩,
      ⟨(some 5), none, .asn (.t 16)⟩])))))) (
 .seq (
  .reg none [⟨(some 4), none, .asn (.c (.bool true))⟩]) (
 .ret))))
def r_laws_eqLineS : Nat × List RV := (27, [.t 4])

theorem c_laws_eqLineS : cmpS PT PF PA (Tryz.prog.funcs[65]?) = some (r_laws_eqLineS.1, r_laws_eqLineS.2, stripK k_laws_eqLineS) := by kernel_rfl

theorem h_eqLineS (xs : List TLine) (hx : wL wLine xs < 2 ^ 40) : CallsF Tryz.prog 65 [.one (.ar false 0 3 (xs.map sLine)), .one (.ar false 0 3 (xs.map sLine))] (aB true) := by
  refine Prun c_laws_eqLineS (by simp [r_laws_eqLineS]) (by simp) ?_
  unfold k_laws_eqLineS r_laws_eqLineS
  have hlen := wL_len wLine xs
  simp
  refine awp_loop (fun n σ => ∃ i : Nat, i ≤ xs.length ∧ n = xs.length - i ∧ σ = ⟨[(0, .one (.ar false 0 3 (xs.map sLine))), (1, .one (.ar false 0 3 (xs.map sLine))), (5, aI i)], []⟩) (xs.length) ⟨0, by simp⟩ ?_
  rintro n σ ⟨i, hi, rfl, rfl⟩
  by_cases h : i < xs.length
  · have hw := wL_get wLine xs i h
    simp [h, sLine]
    refine ⟨_, by simp, h_eqLine xs[i] (by omega), ?_⟩
    simp
    refine ⟨xs.length - (i + 1), by omega, i + 1, by omega, rfl, ?_⟩
    rw [wrapI (by omega) (by omega)]
    simp
  · simp [h]
end Go.Am
-- Store_eq1
namespace Go.Am
open Go.Proofs
set_option maxHeartbeats 4000000
set_option maxRecDepth 100000
-- 25 loop.example/g00485/laws.eqStore
def k_laws_eqStore : K :=
 .seq (
  .reg none [⟨(some 2), none, .box 57 2 (.t 0)⟩,
    ⟨(some 3), none, .box 57 2 (.t 1)⟩,
    ⟨(some 4), none, .asn (.c (.bool false))⟩]) (
 .seq (
  .seq (
   .reg none [⟨(some 5), none, .fad 0 (.t 2)⟩,
     ⟨(some 6), none, .ld 1 false (.t 5)⟩,
     ⟨(some 7), none, .fad 0 (.t 3)⟩,
     ⟨(some 8), none, .ld 1 false (.t 7)⟩,
     ⟨(some 9), none, .bin .neq (.t 6) (.t 8)⟩]) (
  .cond (.t 9) (
   .seq (
    .reg none [⟨(some 4), none, .asn (.c (.bool false))⟩]) (
   .ret)) (
   .skip))) (
 .seq (
  .seq (
   .reg none [⟨(some 10), none, .fad 1 (.t 2)⟩,
     ⟨(some 11), none, .ld 1 false (.t 10)⟩,
     ⟨(some 12), none, .fad 1 (.t 3)⟩,
     ⟨(some 13), none, .ld 1 false (.t 12)⟩,
     ⟨(some 14), none, .call 65 [(.t 11), (.t 13)]⟩,
     ⟨(some 15), none, .not (.t 14)⟩]) (
  .cond (.t 15) (
   .seq (
    .reg none [⟨(some 4), none, .asn (.c (.bool false))⟩]) (
   .ret)) (
   .skip))) (
 .seq (
  .reg none [⟨(some 4), none, .asn (.c (.bool true))⟩]) (
 .ret))))
def r_laws_eqStore : Nat × List RV := (16, [.t 4])

theorem c_laws_eqStore : cmpS PT PF PA (Tryz.prog.funcs[25]?) = some (r_laws_eqStore.1, r_laws_eqStore.2, stripK k_laws_eqStore) := by kernel_rfl

theorem h_eqStore (a : TStore) (ha : wStore a < 2 ^ 40) : CallsF Tryz.prog 25 [.agg (sStore a), .agg (sStore a)] (aB true) := by
  refine Prun c_laws_eqStore (by simp [r_laws_eqStore]) (by simp) ?_
  unfold k_laws_eqStore r_laws_eqStore
  simp only [wStore] at ha
  simp [sStore]
  refine callG_F (h_eqLineS a.lines (by omega)) (by simp) ?_
  simp
end Go.Am
-- Store_eq
namespace Go.Am
open Go.Proofs
set_option maxHeartbeats 4000000
set_option maxRecDepth 100000
-- 47 loop.example/g00485/laws.eqStoreS
def k_laws_eqStoreS : K :=
 .seq (
  .reg none [⟨(some 4), none, .asn (.c (.bool false))⟩]) (
 .seq (
  .seq (
   .reg none [⟨(some 6), none, .mv (.t 0)⟩,
     ⟨(some 7), none, .len (.t 6)⟩,
     ⟨(some 8), none, .mv (.t 1)⟩,
     ⟨(some 9), none, .len (.t 8)⟩,
     ⟨(some 10), none, .bin .neq (.t 7) (.t 9)⟩]) (
  .cond (.t 10) (
   .seq (
    .reg none [⟨(some 4), none, .asn (.c (.bool false))⟩]) (
   .ret)) (
   .skip))) (
 .seq (
  .seq (
   .reg none [⟨(some 5), none, .asn (.c (.int .i64 (0)))⟩]) (
  .block 0 (
   .loop (some ([0, 1, 5], [0, 1, 5, 1000])) (
    .seq (
     .seq (
      .reg none [⟨(some 11), none, .mv (.t 5)⟩,
        ⟨(some 12), none, .mv (.t 0)⟩,
        ⟨(some 13), none, .len (.t 12)⟩,
        ⟨(some 14), none, .bin .lss (.t 11) (.t 13)⟩]) (
     .cond (.t 14) (
      .skip) (
      .exit 0))) (
    .seq (
     .block 1 (
      .seq (
       .drw none 10 [⟨(some 17), none, .mv (.t 0)⟩,
         ⟨(some 18), none, .mv (.t 5)⟩,
         ⟨(some 19), none, .iad 2 (.t 17) (.t 18)⟩,
         ⟨(some 20), none, .ld 2 true (.t 19)⟩,
         ⟨(some 21), none, .mv (.t 1)⟩,
         ⟨(some 22), none, .mv (.t 5)⟩,
         ⟨(some 23), none, .iad 2 (.t 21) (.t 22)⟩,
         ⟨(some 24), none, .ld 2 true (.t 23)⟩,
         ⟨(some 25), none, .call 25 [(.t 20), (.t 24)]⟩,
         ⟨(some 26), none, .not (.t 25)⟩]) (
      .cond (.t 26) (
       .seq (
        .reg none [⟨(some 4), none, .asn (.c (.bool false))⟩]) (
       .ret)) (
       .skip)))) (
    .reg none [⟨(some 15), none, .mv (.t 5)⟩,
      ⟨(some 16), none, .bin .add (.t 15) (.c (.int .i64 (1)))⟩,
      ⟨(some 5), none, .asn (.t 16)⟩])))))) (
 .seq (
  .reg none [⟨(some 4), none, .asn (.c (.bool true))⟩]) (
 .ret))))
def r_laws_eqStoreS : Nat × List RV := (27, [.t 4])

theorem c_laws_eqStoreS : cmpS PT PF PA (Tryz.prog.funcs[47]?) = some (r_laws_eqStoreS.1, r_laws_eqStoreS.2, stripK k_laws_eqStoreS) := by kernel_rfl

theorem h_eqStoreS (xs : List TStore) (hx : wL wStore xs < 2 ^ 40) : CallsF Tryz.prog 47 [.one (.ar false 0 2 (xs.map sStore)), .one (.ar false 0 2 (xs.map sStore))] (aB true) := by
  refine Prun c_laws_eqStoreS (by simp [r_laws_eqStoreS]) (by simp) ?_
  unfold k_laws_eqStoreS r_laws_eqStoreS
  have hlen := wL_len wStore xs
  simp
  refine awp_loop (fun n σ => ∃ i : Nat, i ≤ xs.length ∧ n = xs.length - i ∧ σ = ⟨[(0, .one (.ar false 0 2 (xs.map sStore))), (1, .one (.ar false 0 2 (xs.map sStore))), (5, aI i)], []⟩) (xs.length) ⟨0, by simp⟩ ?_
  rintro n σ ⟨i, hi, rfl, rfl⟩
  by_cases h : i < xs.length
  · have hw := wL_get wStore xs i h
    simp [h, sStore]
    refine ⟨_, by simp, h_eqStore xs[i] (by omega), ?_⟩
    simp
    refine ⟨xs.length - (i + 1), by omega, i + 1, by omega, rfl, ?_⟩
    rw [wrapI (by omega) (by omega)]
    simp
  · simp [h]
end Go.Am
-- Err_eq1
namespace Go.Am
open Go.Proofs
set_option maxHeartbeats 4000000
set_option maxRecDepth 100000
-- 238 loop.example/g00485/laws.eqErr
def k_laws_eqErr : K :=
 .seq (
  .reg none [⟨(some 2), none, .box 157 3 (.t 0)⟩,
    ⟨(some 3), none, .box 157 3 (.t 1)⟩,
    ⟨(some 4), none, .asn (.c (.bool false))⟩]) (
 .seq (
  .seq (
   .reg none [⟨(some 5), none, .fad 0 (.t 2)⟩,
     ⟨(some 6), none, .ld 1 false (.t 5)⟩,
     ⟨(some 7), none, .fad 0 (.t 3)⟩,
     ⟨(some 8), none, .ld 1 false (.t 7)⟩,
     ⟨(some 9), none, .bin .neq (.t 6) (.t 8)⟩]) (
  .cond (.t 9) (
   .seq (
    .reg none [⟨(some 4), none, .asn (.c (.bool false))⟩]) (
   .ret)) (
   .skip))) (
 .seq (
  .seq (
   .reg none [⟨(some 10), none, .fad 1 (.t 2)⟩,
     ⟨(some 11), none, .ld 1 false (.t 10)⟩,
     ⟨(some 12), none, .fad 1 (.t 3)⟩,
     ⟨(some 13), none, .ld 1 false (.t 12)⟩,
     ⟨(some 14), none, .bin .neq (.t 11) (.t 13)⟩]) (
  .cond (.t 14) (
   .seq (
    .reg none [⟨(some 4), none, .asn (.c (.bool false))⟩]) (
   .ret)) (
   .skip))) (
 .seq (
  .seq (
   .reg none [⟨(some 15), none, .fad 2 (.t 2)⟩,
     ⟨(some 16), none, .ld 1 false (.t 15)⟩,
     ⟨(some 17), none, .fad 2 (.t 3)⟩,
     ⟨(some 18), none, .ld 1 false (.t 17)⟩,
     ⟨(some 19), none, .bin .neq (.t 16) (.t 18)⟩]) (
  .cond (.t 19) (
   .seq (
    .reg none [⟨(some 4), none, .asn (.c (.bool false))⟩]) (
   .ret)) (
   .skip))) (
 .seq (
  .reg none [⟨(some 4), none, .asn (.c (.bool true))⟩]) (
 .ret)))))
def r_laws_eqErr : Nat × List RV := (20, [.t 4])

theorem c_laws_eqErr : cmpS PT PF PA (Tryz.prog.funcs[238]?) = some (r_laws_eqErr.1, r_laws_eqErr.2, stripK k_laws_eqErr) := by kernel_rfl

theorem h_eqErr (a : TErr) (ha : wErr a < 2 ^ 40) : CallsF Tryz.prog 238 [.agg (sErr a), .agg (sErr a)] (aB true) := by
  refine Prun c_laws_eqErr (by simp [r_laws_eqErr]) (by simp) ?_
  unfold k_laws_eqErr r_laws_eqErr
  simp only [wErr] at ha
  simp [sErr]
end Go.Am
-- Err_eq
namespace Go.Am
open Go.Proofs
set_option maxHeartbeats 4000000
set_option maxRecDepth 100000
-- 216 loop.example/g00485/laws.eqErrS
def k_laws_eqErrS : K :=
 .seq (
  .reg none [⟨(some 4), none, .asn (.c (.bool false))⟩]) (
 .seq (
  .seq (
   .reg none [⟨(some 6), none, .mv (.t 0)⟩,
     ⟨(some 7), none, .len (.t 6)⟩,
     ⟨(some 8), none, .mv (.t 1)⟩,
     ⟨(some 9), none, .len (.t 8)⟩,
     ⟨(some 10), none, .bin .neq (.t 7) (.t 9)⟩]) (
  .cond (.t 10) (
   .seq (
    .reg none [⟨(some 4), none, .asn (.c (.bool false))⟩]) (
   .ret)) (
   .skip))) (
 .seq (
  .seq (
   .reg none [⟨(some 5), none, .asn (.c (.int .i64 (0)))⟩]) (
  .block 0 (
   .loop (some ([0, 1, 5], [0, 1, 5, 1000])) (
    .seq (
     .seq (
      .reg none [⟨(some 11), none, .mv (.t 5)⟩,
        ⟨(some 12), none, .mv (.t 0)⟩,
        ⟨(some 13), none, .len (.t 12)⟩,
        ⟨(some 14), none, .bin .lss (.t 11) (.t 13)⟩]) (
     .cond (.t 14) (
      .skip) (
      .exit 0))) (
    .seq (
     .block 1 (
      .seq (
       .drw none 10 [⟨(some 17), none, .mv (.t 0)⟩,
         ⟨(some 18), none, .mv (.t 5)⟩,
         ⟨(some 19), none, .iad 3 (.t 17) (.t 18)⟩,
         ⟨(some 20), none, .ld 3 true (.t 19)⟩,
         ⟨(some 21), none, .mv (.t 1)⟩,
         ⟨(some 22), none, .mv (.t 5)⟩,
         ⟨(some 23), none, .iad 3 (.t 21) (.t 22)⟩,
         ⟨(some 24), none, .ld 3 true (.t 23)⟩,
         ⟨(some 25), none, .call 238 [(.t 20), (.t 24)]⟩,
         ⟨(some 26), none, .not (.t 25)⟩]) (
      .cond (.t 26) (
       .seq (
        .reg none [⟨(some 4), none, .asn (.c (.bool false))⟩]) (
       .ret)) (
       .skip)))) (
    .reg none [⟨(some 15), none, .mv (.t 5)⟩,
      ⟨(some 16), none, .bin .add (.t 15) (.c (.int .i64 (1)))⟩,
      ⟨(some 5), none, .asn (.t 16)⟩])))))) (
 .seq (
  .reg none [⟨(some 4), none, .asn (.c (.bool true))⟩]) (
 .ret))))
def r_laws_eqErrS : Nat × List RV := (27, [.t 4])

theorem c_laws_eqErrS : cmpS PT PF PA (Tryz.prog.funcs[216]?) = some (r_laws_eqErrS.1, r_laws_eqErrS.2, stripK k_laws_eqErrS) := by kernel_rfl

theorem h_eqErrS (xs : List TErr) (hx : wL wErr xs < 2 ^ 40) : CallsF Tryz.prog 216 [.one (.ar false 0 3 (xs.map sErr)), .one (.ar false 0 3 (xs.map sErr))] (aB true) := by
  refine Prun c_laws_eqErrS (by simp [r_laws_eqErrS]) (by simp) ?_
  unfold k_laws_eqErrS r_laws_eqErrS
  have hlen := wL_len wErr xs
  simp
  refine awp_loop (fun n σ => ∃ i : Nat, i ≤ xs.length ∧ n = xs.length - i ∧ σ = ⟨[(0, .one (.ar false 0 3 (xs.map sErr))), (1, .one (.ar false 0 3 (xs.map sErr))), (5, aI i)], []⟩) (xs.length) ⟨0, by simp⟩ ?_
  rintro n σ ⟨i, hi, rfl, rfl⟩
  by_cases h : i < xs.length
  · have hw := wL_get wErr xs i h
    simp [h, sErr]
    refine ⟨_, by simp, h_eqErr xs[i] (by omega), ?_⟩
    simp
    refine ⟨xs.length - (i + 1), by omega, i + 1, by omega, rfl, ?_⟩
    rw [wrapI (by omega) (by omega)]
    simp
  · simp [h]
end Go.Am
-- Slot_eq1
namespace Go.Am
open Go.Proofs
set_option maxHeartbeats 4000000
set_option maxRecDepth 100000
-- 236 loop.example/g00485/laws.eqSlot
def k_laws_eqSlot : K :=
 .seq (
  .reg none [⟨(some 2), none, .box 155 2 (.t 0)⟩,
    ⟨(some 3), none, .box 155 2 (.t 1)⟩,
    ⟨(some 4), none, .asn (.c (.bool false))⟩]) (
 .seq (
  .seq (
   .reg none [⟨(some 5), none, .fad 0 (.t 2)⟩,
     ⟨(some 6), none, .ld 1 false (.t 5)⟩,
     ⟨(some 7), none, .fad 0 (.t 3)⟩,
     ⟨(some 8), none, .ld 1 false (.t 7)⟩,
     ⟨(some 9), none, .bin .neq (.t 6) (.t 8)⟩]) (
  .cond (.t 9) (
   .seq (
    .reg none [⟨(some 4), none, .asn (.c (.bool false))⟩]) (
   .ret)) (
   .skip))) (
 .seq (
  .seq (
   .reg none [⟨(some 10), none, .fad 1 (.t 2)⟩,
     ⟨(some 11), none, .ld 1 false (.t 10)⟩,
     ⟨(some 12), none, .fad 1 (.t 3)⟩,
     ⟨(some 13), none, .ld 1 false (.t 12)⟩,
     ⟨(some 14), none, .bin .neq (.t 11) (.t 13)⟩]) (
  .cond (.t 14) (
   .seq (
    .reg none [⟨(some 4), none, .asn (.c (.bool false))⟩]) (
   .ret)) (
   .skip))) (
 .seq (
  .reg none [⟨(some 4), none, .asn (.c (.bool true))⟩]) (
 .ret))))
def r_laws_eqSlot : Nat × List RV := (15, [.t 4])

theorem c_laws_eqSlot : cmpS PT PF PA (Tryz.prog.funcs[236]?) = some (r_laws_eqSlot.1, r_laws_eqSlot.2, stripK k_laws_eqSlot) := by kernel_rfl

theorem h_eqSlot (a : TSlot) (ha : wSlot a < 2 ^ 40) : CallsF Tryz.prog 236 [.agg (sSlot a), .agg (sSlot a)] (aB true) := by
  refine Prun c_laws_eqSlot (by simp [r_laws_eqSlot]) (by simp) ?_
  unfold k_laws_eqSlot r_laws_eqSlot
  simp only [wSlot] at ha
  simp [sSlot]
end Go.Am
-- Slot_eq
namespace Go.Am
open Go.Proofs
set_option maxHeartbeats 4000000
set_option maxRecDepth 100000
-- 214 loop.example/g00485/laws.eqSlotS
def k_laws_eqSlotS : K :=
 .seq (
  .reg none [⟨(some 4), none, .asn (.c (.bool false))⟩]) (
 .seq (
  .seq (
   .reg none [⟨(some 6), none, .mv (.t 0)⟩,
     ⟨(some 7), none, .len (.t 6)⟩,
     ⟨(some 8), none, .mv (.t 1)⟩,
     ⟨(some 9), none, .len (.t 8)⟩,
     ⟨(some 10), none, .bin .neq (.t 7) (.t 9)⟩]) (
  .cond (.t 10) (
   .seq (
    .reg none [⟨(some 4), none, .asn (.c (.bool false))⟩]) (
   .ret)) (
   .skip))) (
 .seq (
  .seq (
   .reg none [⟨(some 5), none, .asn (.c (.int .i64 (0)))⟩]) (
  .block 0 (
   .loop (some ([0, 1, 5], [0, 1, 5, 1000])) (
    .seq (
     .seq (
      .reg none [⟨(some 11), none, .mv (.t 5)⟩,
        ⟨(some 12), none, .mv (.t 0)⟩,
        ⟨(some 13), none, .len (.t 12)⟩,
        ⟨(some 14), none, .bin .lss (.t 11) (.t 13)⟩]) (
     .cond (.t 14) (
      .skip) (
      .exit 0))) (
    .seq (
     .block 1 (
      .seq (
       .drw none 10 [⟨(some 17), none, .mv (.t 0)⟩,
         ⟨(some 18), none, .mv (.t 5)⟩,
         ⟨(some 19), none, .iad 2 (.t 17) (.t 18)⟩,
         ⟨(some 20), none, .ld 2 true (.t 19)⟩,
         ⟨(some 21), none, .mv (.t 1)⟩,
         ⟨(some 22), none, .mv (.t 5)⟩,
         ⟨(some 23), none, .iad 2 (.t 21) (.t 22)⟩,
         ⟨(some 24), none, .ld 2 true (.t 23)⟩,
         ⟨(some 25), none, .call 236 [(.t 20), (.t 24)]⟩,
         ⟨(some 26), none, .not (.t 25)⟩]) (
      .cond (.t 26) (
       .seq (
        .reg none [⟨(some 4), none, .asn (.c (.bool false))⟩]) (
       .ret)) (
       .skip)))) (
    .reg none [⟨(some 15), none, .mv (.t 5)⟩,
      ⟨(some 16), none, .bin .add (.t 15) (.c (.int .i64 (1)))⟩,
      ⟨(some 5), none, .asn (.t 16)⟩])))))) (
 .seq (
  .reg none [⟨(some 4), none, .asn (.c (.bool true))⟩]) (
 .ret))))
def r_laws_eqSlotS : Nat × List RV := (27, [.t 4])

theorem c_laws_eqSlotS : cmpS PT PF PA (Tryz.prog.funcs[214]?) = some (r_laws_eqSlotS.1, r_laws_eqSlotS.2, stripK k_laws_eqSlotS) := by kernel_rfl

theorem h_eqSlotS (xs : List TSlot) (hx : wL wSlot xs < 2 ^ 40) : CallsF Tryz.prog 214 [.one (.ar false 0 2 (xs.map sSlot)), .one (.ar false 0 2 (xs.map sSlot))] (aB true) := by
  refine Prun c_laws_eqSlotS (by simp [r_laws_eqSlotS]) (by simp) ?_
  unfold k_laws_eqSlotS r_laws_eqSlotS
  have hlen := wL_len wSlot xs
  simp
  refine awp_loop (fun n σ => ∃ i : Nat, i ≤ xs.length ∧ n = xs.length - i ∧ σ = ⟨[(0, .one (.ar false 0 2 (xs.map sSlot))), (1, .one (.ar false 0 2 (xs.map sSlot))), (5, aI i)], []⟩) (xs.length) ⟨0, by simp⟩ ?_
  rintro n σ ⟨i, hi, rfl, rfl⟩
  by_cases h : i < xs.length
  · have hw := wL_get wSlot xs i h
    simp [h, sSlot]
    refine ⟨_, by simp, h_eqSlot xs[i] (by omega), ?_⟩
    simp
    refine ⟨xs.length - (i + 1), by omega, i + 1, by omega, rfl, ?_⟩
    rw [wrapI (by omega) (by omega)]
    simp
  · simp [h]
end Go.Am
-- Node_eq1
namespace Go.Am
open Go.Proofs
set_option maxHeartbeats 4000000
set_option maxRecDepth 100000
-- 248 loop.example/g00485/laws.eqNode
def k_laws_eqNode : K :=
 .seq (
  .reg none [⟨(some 2), none, .box 191 5 (.t 0)⟩,
    ⟨(some 3), none, .box 191 5 (.t 1)⟩,
    ⟨(some 4), none, .asn (.c (.bool false))⟩]) (
 .seq (
  .seq (
   .reg none [⟨(some 5), none, .fad 0 (.t 2)⟩,
     ⟨(some 6), none, .ld 1 false (.t 5)⟩,
     ⟨(some 7), none, .fad 0 (.t 3)⟩,
     ⟨(some 8), none, .ld 1 false (.t 7)⟩,
     ⟨(some 9), none, .bin .neq (.t 6) (.t 8)⟩]) (
  .cond (.t 9) (
   .seq (
    .reg none [⟨(some 4), none, .asn (.c (.bool false))⟩]) (
   .ret)) (
   .skip))) (
 .seq (
  .seq (
   .reg none [⟨(some 10), none, .fad 1 (.t 2)⟩,
     ⟨(some 11), none, .ld 1 false (.t 10)⟩,
     ⟨(some 12), none, .fad 1 (.t 3)⟩,
     ⟨(some 13), none, .ld 1 false (.t 12)⟩,
     ⟨(some 14), none, .bin .neq (.t 11) (.t 13)⟩]) (
  .cond (.t 14) (
   .seq (
    .reg none [⟨(some 4), none, .asn (.c (.bool false))⟩]) (
   .ret)) (
   .skip))) (
 .seq (
  .seq (
   .reg none [⟨(some 15), none, .fad 2 (.t 2)⟩,
     ⟨(some 16), none, .ld 1 false (.t 15)⟩,
     ⟨(some 17), none, .fad 2 (.t 3)⟩,
     ⟨(some 18), none, .ld 1 false (.t 17)⟩,
     ⟨(some 19), none, .bin .neq (.t 16) (.t 18)⟩]) (
  .cond (.t 19) (
   .seq (
    .reg none [⟨(some 4), none, .asn (.c (.bool false))⟩]) (
   .ret)) (
   .skip))) (
 .seq (
  .seq (
   .reg none [⟨(some 20), none, .fad 3 (.t 2)⟩,
     ⟨(some 21), none, .ld 1 false (.t 20)⟩,
     ⟨(some 22), none, .fad 3 (.t 3)⟩,
     ⟨(some 23), none, .ld 1 false (.t 22)⟩,
     ⟨(some 24), none, .bin .neq (.t 21) (.t 23)⟩]) (
  .cond (.t 24) (
   .seq (
    .reg none [⟨(some 4), none, .asn (.c (.bool false))⟩]) (
   .ret)) (
   .skip))) (
 .seq (
  .seq (
   .reg none [⟨(some 25), none, .fad 4 (.t 2)⟩,
     ⟨(some 26), none, .ld 1 false (.t 25)⟩,
     ⟨(some 27), none, .fad 4 (.t 3)⟩,
     ⟨(some 28), none, .ld 1 false (.t 27)⟩,
     ⟨(some 29), none, .call 17 [(.t 26), (.t 28)]⟩,
     ⟨(some 30), none, .not (.t 29)⟩]) (
  .cond (.t 30) (
   .seq (
    .reg none [⟨(some 4), none, .asn (.c (.bool false))⟩]) (
   .ret)) (
   .skip))) (
 .seq (
  .reg none [⟨(some 4), none, .asn (.c (.bool true))⟩]) (
 .ret)))))))
def r_laws_eqNode : Nat × List RV := (31, [.t 4])

theorem c_laws_eqNode : cmpS PT PF PA (Tryz.prog.funcs[248]?) = some (r_laws_eqNode.1, r_laws_eqNode.2, stripK k_laws_eqNode) := by kernel_rfl

theorem h_eqNode (a : TNode) (ha : wNode a < 2 ^ 40) : CallsF Tryz.prog 248 [.agg (sNode a), .agg (sNode a)] (aB true) := by
  refine Prun c_laws_eqNode (by simp [r_laws_eqNode]) (by simp) ?_
  unfold k_laws_eqNode r_laws_eqNode
  simp only [wNode] at ha
  simp [sNode]
  refine callG_F (h_eqIntS a.kids (by omega)) (by simp) ?_
  simp
end Go.Am
-- Node_eq
namespace Go.Am
open Go.Proofs
set_option maxHeartbeats 4000000
set_option maxRecDepth 100000
-- 237 loop.example/g00485/laws.eqNodeS
def k_laws_eqNodeS : K :=
 .seq (
  .reg none [⟨(some 4), none, .asn (.c (.bool false))⟩]) (
 .seq (
  .seq (
   .reg none [⟨(some 6), none, .mv (.t 0)⟩,
     ⟨(some 7), none, .len (.t 6)⟩,
     ⟨(some 8), none, .mv (.t 1)⟩,
     ⟨(some 9), none, .len (.t 8)⟩,
     ⟨(some 10), none, .bin .neq (.t 7) (.t 9)⟩]) (
  .cond (.t 10) (
   .seq (
    .reg none [⟨(some 4), none, .asn (.c (.bool false))⟩]) (
   .ret)) (
   .skip))) (
 .seq (
  .seq (
   .reg none [⟨(some 5), none, .asn (.c (.int .i64 (0)))⟩]) (
  .block 0 (
   .loop (some ([0, 1, 5], [0, 1, 5, 1000])) (
    .seq (
     .seq (
      .reg none [⟨(some 11), none, .mv (.t 5)⟩,
        ⟨(some 12), none, .mv (.t 0)⟩,
        ⟨(some 13), none, .len (.t 12)⟩,
        ⟨(some 14), none, .bin .lss (.t 11) (.t 13)⟩]) (
     .cond (.t 14) (
      .skip) (
      .exit 0))) (
    .seq (
     .block 1 (
      .seq (
       .drw none 10 [⟨(some 17), none, .mv (.t 0)⟩,
         ⟨(some 18), none, .mv (.t 5)⟩,
         ⟨(some 19), none, .iad 5 (.t 17) (.t 18)⟩,
         ⟨(some 20), none, .ld 5 true (.t 19)⟩,
         ⟨(some 21), none, .mv (.t 1)⟩,
         ⟨(some 22), none, .mv (.t 5)⟩,
         ⟨(some 23), none, .iad 5 (.t 21) (.t 22)⟩,
         ⟨(some 24), none, .ld 5 true (.t 23)⟩,
         ⟨(some 25), none, .call 248 [(.t 20), (.t 24)]⟩,
         ⟨(some 26), none, .not (.t 25)⟩]) (
      .cond (.t 26) (
       .seq (
        .reg none [⟨(some 4), none, .asn (.c (.bool false))⟩]) (
       .ret)) (
       .skip)))) (
    .reg none [⟨(some 15), none, .mv (.t 5)⟩,
      ⟨(some 16), none, .bin .add (.t 15) (.c (.int .i64 (1)))⟩,
      ⟨(some 5), none, .asn (.t 16)⟩])))))) (
 .seq (
  .reg none [⟨(some 4), none, .asn (.c (.bool true))⟩]) (
 .ret))))
def r_laws_eqNodeS : Nat × List RV := (27, [.t 4])

theorem c_laws_eqNodeS : cmpS PT PF PA (Tryz.prog.funcs[237]?) = some (r_laws_eqNodeS.1, r_laws_eqNodeS.2, stripK k_laws_eqNodeS) := by kernel_rfl

theorem h_eqNodeS (xs : List TNode) (hx : wL wNode xs < 2 ^ 40) : CallsF Tryz.prog 237 [.one (.ar false 0 5 (xs.map sNode)), .one (.ar false 0 5 (xs.map sNode))] (aB true) := by
  refine Prun c_laws_eqNodeS (by simp [r_laws_eqNodeS]) (by simp) ?_
  unfold k_laws_eqNodeS r_laws_eqNodeS
  have hlen := wL_len wNode xs
  simp
  refine awp_loop (fun n σ => ∃ i : Nat, i ≤ xs.length ∧ n = xs.length - i ∧ σ = ⟨[(0, .one (.ar false 0 5 (xs.map sNode))), (1, .one (.ar false 0 5 (xs.map sNode))), (5, aI i)], []⟩) (xs.length) ⟨0, by simp⟩ ?_
  rintro n σ ⟨i, hi, rfl, rfl⟩
  by_cases h : i < xs.length
  · have hw := wL_get wNode xs i h
    simp [h, sNode]
    refine ⟨_, by simp, h_eqNode xs[i] (by omega), ?_⟩
    simp
    refine ⟨xs.length - (i + 1), by omega, i + 1, by omega, rfl, ?_⟩
    rw [wrapI (by omega) (by omega)]
    simp
  · simp [h]
end Go.Am
-- Tree_eq1
namespace Go.Am
open Go.Proofs
set_option maxHeartbeats 4000000
set_option maxRecDepth 100000
-- 215 loop.example/g00485/laws.eqTree
def k_laws_eqTree : K :=
 .seq (
  .reg none [⟨(some 2), none, .box 89 1 (.t 0)⟩,
    ⟨(some 3), none, .box 89 1 (.t 1)⟩,
    ⟨(some 4), none, .asn (.c (.bool false))⟩]) (
 .seq (
  .seq (
   .reg none [⟨(some 5), none, .fad 0 (.t 2)⟩,
     ⟨(some 6), none, .ld 1 false (.t 5)⟩,
     ⟨(some 7), none, .fad 0 (.t 3)⟩,
     ⟨(some 8), none, .ld 1 false (.t 7)⟩,
     ⟨(some 9), none, .call 237 [(.t 6), (.t 8)]⟩,
     ⟨(some 10), none, .not (.t 9)⟩]) (
  .cond (.t 10) (
   .seq (
    .reg none [⟨(some 4), none, .asn (.c (.bool false))⟩]) (
   .ret)) (
   .skip))) (
 .seq (
  .reg none [⟨(some 4), none, .asn (.c (.bool true))⟩]) (
 .ret)))
def r_laws_eqTree : Nat × List RV := (11, [.t 4])

theorem c_laws_eqTree : cmpS PT PF PA (Tryz.prog.funcs[215]?) = some (r_laws_eqTree.1, r_laws_eqTree.2, stripK k_laws_eqTree) := by kernel_rfl

theorem h_eqTree (a : TTree) (ha : wTree a < 2 ^ 40) : CallsF Tryz.prog 215 [.agg (sTree a), .agg (sTree a)] (aB true) := by
  refine Prun c_laws_eqTree (by simp [r_laws_eqTree]) (by simp) ?_
  unfold k_laws_eqTree r_laws_eqTree
  simp only [wTree] at ha
  simp [sTree]
  refine callG_F (h_eqNodeS a.nodes (by omega)) (by simp) ?_
  simp
end Go.Am
-- Run_eq1
namespace Go.Am
open Go.Proofs
set_option maxHeartbeats 4000000
set_option maxRecDepth 100000
-- 181 loop.example/g00485/laws.eqRun
def k_laws_eqRun : K :=
 .seq (
  .reg none [⟨(some 2), none, .box 92 7 (.t 0)⟩,
    ⟨(some 3), none, .box 92 7 (.t 1)⟩,
    ⟨(some 4), none, .asn (.c (.bool false))⟩]) (
 .seq (
  .seq (
   .reg none [⟨(some 5), none, .fad 0 (.t 2)⟩,
     ⟨(some 6), none, .ld 1 false (.t 5)⟩,
     ⟨(some 7), none, .fad 0 (.t 3)⟩,
     ⟨(some 8), none, .ld 1 false (.t 7)⟩,
     ⟨(some 9), none, .bin .neq (.t 6) (.t 8)⟩]) (
  .cond (.t 9) (
   .seq (
    .reg none [⟨(some 4), none, .asn (.c (.bool false))⟩]) (
   .ret)) (
   .skip))) (
 .seq (
  .seq (
   .reg none [⟨(some 10), none, .fad 1 (.t 2)⟩,
     ⟨(some 11), none, .ld 1 false (.t 10)⟩,
     ⟨(some 12), none, .fad 1 (.t 3)⟩,
     ⟨(some 13), none, .ld 1 false (.t 12)⟩,
     ⟨(some 14), none, .bin .neq (.t 11) (.t 13)⟩]) (
  .cond (.t 14) (
   .seq (
    .reg none [⟨(some 4), none, .asn (.c (.bool false))⟩]) (
   .ret)) (
   .skip))) (
 .seq (
  .seq (
   .reg none [⟨(some 15), none, .fad 2 (.t 2)⟩,
     ⟨(some 16), none, .ld 1 false (.t 15)⟩,
     ⟨(some 17), none, .fad 2 (.t 3)⟩,
     ⟨(some 18), none, .ld 1 false (.t 17)⟩,
     ⟨(some 19), none, .bin .neq (.t 16) (.t 18)⟩]) (
  .cond (.t 19) (
   .seq (
    .reg none [⟨(some 4), none, .asn (.c (.bool false))⟩]) (
   .ret)) (
   .skip))) (
 .seq (
  .seq (
   .reg none [⟨(some 20), none, .fad 3 (.t 2)⟩,
     ⟨(some 21), none, .ld 1 false (.t 20)⟩,
     ⟨(some 22), none, .fad 3 (.t 3)⟩,
     ⟨(some 23), none, .ld 1 false (.t 22)⟩,
     ⟨(some 24), none, .bin .neq (.t 21) (.t 23)⟩]) (
  .cond (.t 24) (
   .seq (
    .reg none [⟨(some 4), none, .asn (.c (.bool false))⟩]) (
   .ret)) (
   .skip))) (
 .seq (
  .seq (
   .reg none [⟨(some 25), none, .fad 4 (.t 2)⟩,
     ⟨(some 26), none, .ld 1 false (.t 25)⟩,
     ⟨(some 27), none, .fad 4 (.t 3)⟩,
     ⟨(some 28), none, .ld 1 false (.t 27)⟩,
     ⟨(some 29), none, .call 214 [(.t 26), (.t 28)]⟩,
     ⟨(some 30), none, .not (.t 29)⟩]) (
  .cond (.t 30) (
   .seq (
    .reg none [⟨(some 4), none, .asn (.c (.bool false))⟩]) (
   .ret)) (
   .skip))) (
 .seq (
  .seq (
   .reg none [⟨(some 31), none, .fad 5 (.t 2)⟩,
     ⟨(some 32), none, .ld 1 true (.t 31)⟩,
     ⟨(some 33), none, .fad 5 (.t 3)⟩,
     ⟨(some 34), none, .ld 1 true (.t 33)⟩,
     ⟨(some 35), none, .call 215 [(.t 32), (.t 34)]⟩,
     ⟨(some 36), none, .not (.t 35)⟩]) (
  .cond (.t 36) (
   .seq (
    .reg none [⟨(some 4), none, .asn (.c (.bool false))⟩]) (
   .ret)) (
   .skip))) (
 .seq (
  .seq (
   .reg none [⟨(some 37), none, .fad 6 (.t 2)⟩,
     ⟨(some 38), none, .ld 1 false (.t 37)⟩,
     ⟨(some 39), none, .fad 6 (.t 3)⟩,
     ⟨(some 40), none, .ld 1 false (.t 39)⟩,
     ⟨(some 41), none, .call 216 [(.t 38), (.t 40)]⟩,
     ⟨(some 42), none, .not (.t 41)⟩]) (
  .cond (.t 42) (
   .seq (
    .reg none [⟨(some 4), none, .asn (.c (.bool false))⟩]) (
   .ret)) (
   .skip))) (
 .seq (
  .reg none [⟨(some 4), none, .asn (.c (.bool true))⟩]) (
 .ret)))))))))
def r_laws_eqRun : Nat × List RV := (43, [.t 4])

theorem c_laws_eqRun : cmpS PT PF PA (Tryz.prog.funcs[181]?) = some (r_laws_eqRun.1, r_laws_eqRun.2, stripK k_laws_eqRun) := by kernel_rfl

theorem h_eqRun (a : TRun) (ha : wRun a < 2 ^ 40) : CallsF Tryz.prog 181 [.agg (sRun a), .agg (sRun a)] (aB true) := by
  refine Prun c_laws_eqRun (by simp [r_laws_eqRun]) (by simp) ?_
  unfold k_laws_eqRun r_laws_eqRun
  simp only [wRun] at ha
  simp [sRun]
  refine callG_F (h_eqSlotS a.slots (by omega)) (by simp) ?_
  simp
  refine callG_F (h_eqTree a.tree (by omega)) (by simp) ?_
  simp
  refine callG_F (h_eqErrS a.errs (by omega)) (by simp) ?_
  simp
end Go.Am
-- Job_eq1
namespace Go.Am
open Go.Proofs
set_option maxHeartbeats 4000000
set_option maxRecDepth 100000
-- 151 loop.example/g00485/laws.eqJob
def k_laws_eqJob : K :=
 .seq (
  .reg none [⟨(some 2), none, .box 121 10 (.t 0)⟩,
    ⟨(some 3), none, .box 121 10 (.t 1)⟩,
    ⟨(some 4), none, .asn (.c (.bool false))⟩]) (
 .seq (
  .seq (
   .reg none [⟨(some 5), none, .fad 0 (.t 2)⟩,
     ⟨(some 6), none, .ld 1 false (.t 5)⟩,
     ⟨(some 7), none, .fad 0 (.t 3)⟩,
     ⟨(some 8), none, .ld 1 false (.t 7)⟩,
     ⟨(some 9), none, .bin .neq (.t 6) (.t 8)⟩]) (
  .cond (.t 9) (
   .seq (
    .reg none [⟨(some 4), none, .asn (.c (.bool false))⟩]) (
   .ret)) (
   .skip))) (
 .seq (
  .seq (
   .reg none [⟨(some 10), none, .fad 1 (.t 2)⟩,
     ⟨(some 11), none, .ld 1 false (.t 10)⟩,
     ⟨(some 12), none, .fad 1 (.t 3)⟩,
     ⟨(some 13), none, .ld 1 false (.t 12)⟩,
     ⟨(some 14), none, .bin .neq (.t 11) (.t 13)⟩]) (
  .cond (.t 14) (
   .seq (
    .reg none [⟨(some 4), none, .asn (.c (.bool false))⟩]) (
   .ret)) (
   .skip))) (
 .seq (
  .seq (
   .reg none [⟨(some 15), none, .fad 2 (.t 2)⟩,
     ⟨(some 16), none, .ld 1 false (.t 15)⟩,
     ⟨(some 17), none, .fad 2 (.t 3)⟩,
     ⟨(some 18), none, .ld 1 false (.t 17)⟩,
     ⟨(some 19), none, .call 17 [(.t 16), (.t 18)]⟩,
     ⟨(some 20), none, .not (.t 19)⟩]) (
  .cond (.t 20) (
   .seq (
    .reg none [⟨(some 4), none, .asn (.c (.bool false))⟩]) (
   .ret)) (
   .skip))) (
 .seq (
  .seq (
   .reg none [⟨(some 21), none, .fad 3 (.t 2)⟩,
     ⟨(some 22), none, .ld 7 true (.t 21)⟩,
     ⟨(some 23), none, .fad 3 (.t 3)⟩,
     ⟨(some 24), none, .ld 7 true (.t 23)⟩,
     ⟨(some 25), none, .call 181 [(.t 22), (.t 24)]⟩,
     ⟨(some 26), none, .not (.t 25)⟩]) (
  .cond (.t 26) (
   .seq (
    .reg none [⟨(some 4), none, .asn (.c (.bool false))⟩]) (
   .ret)) (
   .skip))) (
 .seq (
  .reg none [⟨(some 4), none, .asn (.c (.bool true))⟩]) (
 .ret))))))
def r_laws_eqJob : Nat × List RV := (27, [.t 4])

theorem c_laws_eqJob : cmpS PT PF PA (Tryz.prog.funcs[151]?) = some (r_laws_eqJob.1, r_laws_eqJob.2, stripK k_laws_eqJob) := by kernel_rfl

theorem h_eqJob (a : TJob) (ha : wJob a < 2 ^ 40) : CallsF Tryz.prog 151 [.agg (sJob a), .agg (sJob a)] (aB true) := by
  refine Prun c_laws_eqJob (by simp [r_laws_eqJob]) (by simp) ?_
  unfold k_laws_eqJob r_laws_eqJob
  simp only [wJob] at ha
  simp [sJob]
  refine callG_F (h_eqIntS a.input (by omega)) (by simp) ?_
  simp
  refine callG_F (h_eqRun a.run (by omega)) (by simp) ?_
  simp
end Go.Am
-- Job_eq
namespace Go.Am
open Go.Proofs
set_option maxHeartbeats 4000000
set_option maxRecDepth 100000
-- 118 loop.example/g00485/laws.eqJobS
def k_laws_eqJobS : K :=
 .seq (
  .reg none [⟨(some 4), none, .asn (.c (.bool false))⟩]) (
 .seq (
  .seq (
   .reg none [⟨(some 6), none, .mv (.t 0)⟩,
     ⟨(some 7), none, .len (.t 6)⟩,
     ⟨(some 8), none, .mv (.t 1)⟩,
     ⟨(some 9), none, .len (.t 8)⟩,
     ⟨(some 10), none, .bin .neq (.t 7) (.t 9)⟩]) (
  .cond (.t 10) (
   .seq (
    .reg none [⟨(some 4), none, .asn (.c (.bool false))⟩]) (
   .ret)) (
   .skip))) (
 .seq (
  .seq (
   .reg none [⟨(some 5), none, .asn (.c (.int .i64 (0)))⟩]) (
  .block 0 (
   .loop (some ([0, 1, 5], [0, 1, 5, 1000])) (
    .seq (
     .seq (
      .reg none [⟨(some 11), none, .mv (.t 5)⟩,
        ⟨(some 12), none, .mv (.t 0)⟩,
        ⟨(some 13), none, .len (.t 12)⟩,
        ⟨(some 14), none, .bin .lss (.t 11) (.t 13)⟩]) (
     .cond (.t 14) (
      .skip) (
      .exit 0))) (
    .seq (
     .block 1 (
      .seq (
       .drw none 10 [⟨(some 17), none, .mv (.t 0)⟩,
         ⟨(some 18), none, .mv (.t 5)⟩,
         ⟨(some 19), none, .iad 10 (.t 17) (.t 18)⟩,
         ⟨(some 20), none, .ld 10 true (.t 19)⟩,
         ⟨(some 21), none, .mv (.t 1)⟩,
         ⟨(some 22), none, .mv (.t 5)⟩,
         ⟨(some 23), none, .iad 10 (.t 21) (.t 22)⟩,
         ⟨(some 24), none, .ld 10 true (.t 23)⟩,
         ⟨(some 25), none, .call 151 [(.t 20), (.t 24)]⟩,
         ⟨(some 26), none, .not (.t 25)⟩]) (
      .cond (.t 26) (
       .seq (
        .reg none [⟨(some 4), none, .asn (.c (.bool false))⟩]) (
       .ret)) (
       .skip)))) (
    .reg none [⟨(some 15), none, .mv (.t 5)⟩,
      ⟨(some 16), none, .bin .add (.t 15) (.c (.int .i64 (1)))⟩,
      ⟨(some 5), none, .asn (.t 16)⟩])))))) (
 .seq (
  .reg none [⟨(some 4), none, .asn (.c (.bool true))⟩]) (
 .ret))))
def r_laws_eqJobS : Nat × List RV := (27, [.t 4])

theorem c_laws_eqJobS : cmpS PT PF PA (Tryz.prog.funcs[118]?) = some (r_laws_eqJobS.1, r_laws_eqJobS.2, stripK k_laws_eqJobS) := by kernel_rfl

theorem h_eqJobS (xs : List TJob) (hx : wL wJob xs < 2 ^ 40) : CallsF Tryz.prog 118 [.one (.ar false 0 10 (xs.map sJob)), .one (.ar false 0 10 (xs.map sJob))] (aB true) := by
  refine Prun c_laws_eqJobS (by simp [r_laws_eqJobS]) (by simp) ?_
  unfold k_laws_eqJobS r_laws_eqJobS
  have hlen := wL_len wJob xs
  simp
  refine awp_loop (fun n σ => ∃ i : Nat, i ≤ xs.length ∧ n = xs.length - i ∧ σ = ⟨[(0, .one (.ar false 0 10 (xs.map sJob))), (1, .one (.ar false 0 10 (xs.map sJob))), (5, aI i)], []⟩) (xs.length) ⟨0, by simp⟩ ?_
  rintro n σ ⟨i, hi, rfl, rfl⟩
  by_cases h : i < xs.length
  · have hw := wL_get wJob xs i h
    simp [h, sJob]
    refine ⟨_, by simp, h_eqJob xs[i] (by omega), ?_⟩
    simp
    refine ⟨xs.length - (i + 1), by omega, i + 1, by omega, rfl, ?_⟩
    rw [wrapI (by omega) (by omega)]
    simp
  · simp [h]
end Go.Am
-- Outcome_eq1
namespace Go.Am
open Go.Proofs
set_option maxHeartbeats 4000000
set_option maxRecDepth 100000
-- 152 loop.example/g00485/laws.eqOutcome
def k_laws_eqOutcome : K :=
 .seq (
  .reg none [⟨(some 2), none, .box 132 3 (.t 0)⟩,
    ⟨(some 3), none, .box 132 3 (.t 1)⟩,
    ⟨(some 4), none, .asn (.c (.bool false))⟩]) (
 .seq (
  .seq (
   .reg none [⟨(some 5), none, .fad 0 (.t 2)⟩,
     ⟨(some 6), none, .ld 1 false (.t 5)⟩,
     ⟨(some 7), none, .fad 0 (.t 3)⟩,
     ⟨(some 8), none, .ld 1 false (.t 7)⟩,
     ⟨(some 9), none, .bin .neq (.t 6) (.t 8)⟩]) (
  .cond (.t 9) (
   .seq (
    .reg none [⟨(some 4), none, .asn (.c (.bool false))⟩]) (
   .ret)) (
   .skip))) (
 .seq (
  .seq (
   .reg none [⟨(some 10), none, .fad 1 (.t 2)⟩,
     ⟨(some 11), none, .ld 1 false (.t 10)⟩,
     ⟨(some 12), none, .fad 1 (.t 3)⟩,
     ⟨(some 13), none, .ld 1 false (.t 12)⟩,
     ⟨(some 14), none, .bin .neq (.t 11) (.t 13)⟩]) (
  .cond (.t 14) (
   .seq (
    .reg none [⟨(some 4), none, .asn (.c (.bool false))⟩]) (
   .ret)) (
   .skip))) (
 .seq (
  .seq (
   .reg none [⟨(some 15), none, .fad 2 (.t 2)⟩,
     ⟨(some 16), none, .ld 1 false (.t 15)⟩,
     ⟨(some 17), none, .fad 2 (.t 3)⟩,
     ⟨(some 18), none, .ld 1 false (.t 17)⟩,
     ⟨(some 19), none, .bin .neq (.t 16) (.t 18)⟩]) (
  .cond (.t 19) (
   .seq (
    .reg none [⟨(some 4), none, .asn (.c (.bool false))⟩]) (
   .ret)) (
   .skip))) (
 .seq (
  .reg none [⟨(some 4), none, .asn (.c (.bool true))⟩]) (
 .ret)))))
def r_laws_eqOutcome : Nat × List RV := (20, [.t 4])

theorem c_laws_eqOutcome : cmpS PT PF PA (Tryz.prog.funcs[152]?) = some (r_laws_eqOutcome.1, r_laws_eqOutcome.2, stripK k_laws_eqOutcome) := by kernel_rfl

theorem h_eqOutcome (a : TOutcome) (ha : wOutcome a < 2 ^ 40) : CallsF Tryz.prog 152 [.agg (sOutcome a), .agg (sOutcome a)] (aB true) := by
  refine Prun c_laws_eqOutcome (by simp [r_laws_eqOutcome]) (by simp) ?_
  unfold k_laws_eqOutcome r_laws_eqOutcome
  simp only [wOutcome] at ha
  simp [sOutcome]
end Go.Am
-- Outcome_eq
namespace Go.Am
open Go.Proofs
set_option maxHeartbeats 4000000
set_option maxRecDepth 100000
-- 119 loop.example/g00485/laws.eqOutcomeS
def k_laws_eqOutcomeS : K :=
 .seq (
  .reg none [⟨(some 4), none, .asn (.c (.bool false))⟩]) (
 .seq (
  .seq (
   .reg none [⟨(some 6), none, .mv (.t 0)⟩,
     ⟨(some 7), none, .len (.t 6)⟩,
     ⟨(some 8), none, .mv (.t 1)⟩,
     ⟨(some 9), none, .len (.t 8)⟩,
     ⟨(some 10), none, .bin .neq (.t 7) (.t 9)⟩]) (
  .cond (.t 10) (
   .seq (
    .reg none [⟨(some 4), none, .asn (.c (.bool false))⟩]) (
   .ret)) (
   .skip))) (
 .seq (
  .seq (
   .reg none [⟨(some 5), none, .asn (.c (.int .i64 (0)))⟩]) (
  .block 0 (
   .loop (some ([0, 1, 5], [0, 1, 5, 1000])) (
    .seq (
     .seq (
      .reg none [⟨(some 11), none, .mv (.t 5)⟩,
        ⟨(some 12), none, .mv (.t 0)⟩,
        ⟨(some 13), none, .len (.t 12)⟩,
        ⟨(some 14), none, .bin .lss (.t 11) (.t 13)⟩]) (
     .cond (.t 14) (
      .skip) (
      .exit 0))) (
    .seq (
     .block 1 (
      .seq (
       .drw none 10 [⟨(some 17), none, .mv (.t 0)⟩,
         ⟨(some 18), none, .mv (.t 5)⟩,
         ⟨(some 19), none, .iad 3 (.t 17) (.t 18)⟩,
         ⟨(some 20), none, .ld 3 true (.t 19)⟩,
         ⟨(some 21), none, .mv (.t 1)⟩,
         ⟨(some 22), none, .mv (.t 5)⟩,
         ⟨(some 23), none, .iad 3 (.t 21) (.t 22)⟩,
         ⟨(some 24), none, .ld 3 true (.t 23)⟩,
         ⟨(some 25), none, .call 152 [(.t 20), (.t 24)]⟩,
         ⟨(some 26), none, .not (.t 25)⟩]) (
      .cond (.t 26) (
       .seq (
        .reg none [⟨(some 4), none, .asn (.c (.bool false))⟩]) (
       .ret)) (
       .skip)))) (
    .reg none [⟨(some 15), none, .mv (.t 5)⟩,
      ⟨(some 16), none, .bin .add (.t 15) (.c (.int .i64 (1)))⟩,
      ⟨(some 5), none, .asn (.t 16)⟩])))))) (
 .seq (
  .reg none [⟨(some 4), none, .asn (.c (.bool true))⟩]) (
 .ret))))
def r_laws_eqOutcomeS : Nat × List RV := (27, [.t 4])

theorem c_laws_eqOutcomeS : cmpS PT PF PA (Tryz.prog.funcs[119]?) = some (r_laws_eqOutcomeS.1, r_laws_eqOutcomeS.2, stripK k_laws_eqOutcomeS) := by kernel_rfl

theorem h_eqOutcomeS (xs : List TOutcome) (hx : wL wOutcome xs < 2 ^ 40) : CallsF Tryz.prog 119 [.one (.ar false 0 3 (xs.map sOutcome)), .one (.ar false 0 3 (xs.map sOutcome))] (aB true) := by
  refine Prun c_laws_eqOutcomeS (by simp [r_laws_eqOutcomeS]) (by simp) ?_
  unfold k_laws_eqOutcomeS r_laws_eqOutcomeS
  have hlen := wL_len wOutcome xs
  simp
  refine awp_loop (fun n σ => ∃ i : Nat, i ≤ xs.length ∧ n = xs.length - i ∧ σ = ⟨[(0, .one (.ar false 0 3 (xs.map sOutcome))), (1, .one (.ar false 0 3 (xs.map sOutcome))), (5, aI i)], []⟩) (xs.length) ⟨0, by simp⟩ ?_
  rintro n σ ⟨i, hi, rfl, rfl⟩
  by_cases h : i < xs.length
  · have hw := wL_get wOutcome xs i h
    simp [h, sOutcome]
    refine ⟨_, by simp, h_eqOutcome xs[i] (by omega), ?_⟩
    simp
    refine ⟨xs.length - (i + 1), by omega, i + 1, by omega, rfl, ?_⟩
    rw [wrapI (by omega) (by omega)]
    simp
  · simp [h]
end Go.Am
-- Tenant_eq1
namespace Go.Am
open Go.Proofs
set_option maxHeartbeats 4000000
set_option maxRecDepth 100000
-- 86 loop.example/g00485/laws.eqTenant
def k_laws_eqTenant : K :=
 .seq (
  .reg none [⟨(some 2), none, .box 75 10 (.t 0)⟩,
    ⟨(some 3), none, .box 75 10 (.t 1)⟩,
    ⟨(some 4), none, .asn (.c (.bool false))⟩]) (
 .seq (
  .seq (
   .reg none [⟨(some 5), none, .fad 0 (.t 2)⟩,
     ⟨(some 6), none, .ld 1 false (.t 5)⟩,
     ⟨(some 7), none, .fad 0 (.t 3)⟩,
     ⟨(some 8), none, .ld 1 false (.t 7)⟩,
     ⟨(some 9), none, .bin .neq (.t 6) (.t 8)⟩]) (
  .cond (.t 9) (
   .seq (
    .reg none [⟨(some 4), none, .asn (.c (.bool false))⟩]) (
   .ret)) (
   .skip))) (
 .seq (
  .seq (
   .reg none [⟨(some 10), none, .fad 1 (.t 2)⟩,
     ⟨(some 11), none, .ld 1 false (.t 10)⟩,
     ⟨(some 12), none, .fad 1 (.t 3)⟩,
     ⟨(some 13), none, .ld 1 false (.t 12)⟩,
     ⟨(some 14), none, .bin .neq (.t 11) (.t 13)⟩]) (
  .cond (.t 14) (
   .seq (
    .reg none [⟨(some 4), none, .asn (.c (.bool false))⟩]) (
   .ret)) (
   .skip))) (
 .seq (
  .seq (
   .reg none [⟨(some 15), none, .fad 2 (.t 2)⟩,
     ⟨(some 16), none, .ld 1 false (.t 15)⟩,
     ⟨(some 17), none, .fad 2 (.t 3)⟩,
     ⟨(some 18), none, .ld 1 false (.t 17)⟩,
     ⟨(some 19), none, .bin .neq (.t 16) (.t 18)⟩]) (
  .cond (.t 19) (
   .seq (
    .reg none [⟨(some 4), none, .asn (.c (.bool false))⟩]) (
   .ret)) (
   .skip))) (
 .seq (
  .seq (
   .reg none [⟨(some 20), none, .fad 3 (.t 2)⟩,
     ⟨(some 21), none, .ld 1 false (.t 20)⟩,
     ⟨(some 22), none, .fad 3 (.t 3)⟩,
     ⟨(some 23), none, .ld 1 false (.t 22)⟩,
     ⟨(some 24), none, .bin .neq (.t 21) (.t 23)⟩]) (
  .cond (.t 24) (
   .seq (
    .reg none [⟨(some 4), none, .asn (.c (.bool false))⟩]) (
   .ret)) (
   .skip))) (
 .seq (
  .seq (
   .reg none [⟨(some 25), none, .fad 4 (.t 2)⟩,
     ⟨(some 26), none, .ld 1 false (.t 25)⟩,
     ⟨(some 27), none, .fad 4 (.t 3)⟩,
     ⟨(some 28), none, .ld 1 false (.t 27)⟩,
     ⟨(some 29), none, .bin .neq (.t 26) (.t 28)⟩]) (
  .cond (.t 29) (
   .seq (
    .reg none [⟨(some 4), none, .asn (.c (.bool false))⟩]) (
   .ret)) (
   .skip))) (
 .seq (
  .seq (
   .reg none [⟨(some 30), none, .fad 5 (.t 2)⟩,
     ⟨(some 31), none, .ld 1 false (.t 30)⟩,
     ⟨(some 32), none, .fad 5 (.t 3)⟩,
     ⟨(some 33), none, .ld 1 false (.t 32)⟩,
     ⟨(some 34), none, .bin .neq (.t 31) (.t 33)⟩]) (
  .cond (.t 34) (
   .seq (
    .reg none [⟨(some 4), none, .asn (.c (.bool false))⟩]) (
   .ret)) (
   .skip))) (
 .seq (
  .seq (
   .reg none [⟨(some 35), none, .fad 6 (.t 2)⟩,
     ⟨(some 36), none, .ld 1 false (.t 35)⟩,
     ⟨(some 37), none, .fad 6 (.t 3)⟩,
     ⟨(some 38), none, .ld 1 false (.t 37)⟩,
     ⟨(some 39), none, .bin .neq (.t 36) (.t 38)⟩]) (
  .cond (.t 39) (
   .seq (
    .reg none [⟨(some 4), none, .asn (.c (.bool false))⟩]) (
   .ret)) (
   .skip))) (
 .seq (
  .seq (
   .reg none [⟨(some 40), none, .fad 7 (.t 2)⟩,
     ⟨(some 41), none, .ld 1 false (.t 40)⟩,
     ⟨(some 42), none, .fad 7 (.t 3)⟩,
     ⟨(some 43), none, .ld 1 false (.t 42)⟩,
     ⟨(some 44), none, .bin .neq (.t 41) (.t 43)⟩]) (
  .cond (.t 44) (
   .seq (
    .reg none [⟨(some 4), none, .asn (.c (.bool false))⟩]) (
   .ret)) (
   .skip))) (
 .seq (
  .seq (
   .reg none [⟨(some 45), none, .fad 8 (.t 2)⟩,
     ⟨(some 46), none, .ld 1 false (.t 45)⟩,
     ⟨(some 47), none, .fad 8 (.t 3)⟩,
     ⟨(some 48), none, .ld 1 false (.t 47)⟩,
     ⟨(some 49), none, .call 118 [(.t 46), (.t 48)]⟩,
     ⟨(some 50), none, .not (.t 49)⟩]) (
  .cond (.t 50) (
   .seq (
    .reg none [⟨(some 4), none, .asn (.c (.bool false))⟩]) (
   .ret)) (
   .skip))) (
 .seq (
  .seq (
   .reg none [⟨(some 51), none, .fad 9 (.t 2)⟩,
     ⟨(some 52), none, .ld 1 false (.t 51)⟩,
     ⟨(some 53), none, .fad 9 (.t 3)⟩,
     ⟨(some 54), none, .ld 1 false (.t 53)⟩,
     ⟨(some 55), none, .call 119 [(.t 52), (.t 54)]⟩,
     ⟨(some 56), none, .not (.t 55)⟩]) (
  .cond (.t 56) (
   .seq (
    .reg none [⟨(some 4), none, .asn (.c (.bool false))⟩]) (
   .ret)) (
   .skip))) (
 .seq (
  .reg none [⟨(some 4), none, .asn (.c (.bool true))⟩]) (
 .ret))))))))))))
def r_laws_eqTenant : Nat × List RV := (57, [.t 4])

theorem c_laws_eqTenant : cmpS PT PF PA (Tryz.prog.funcs[86]?) = some (r_laws_eqTenant.1, r_laws_eqTenant.2, stripK k_laws_eqTenant) := by kernel_rfl

theorem h_eqTenant (a : TTenant) (ha : wTenant a < 2 ^ 40) : CallsF Tryz.prog 86 [.agg (sTenant a), .agg (sTenant a)] (aB true) := by
  refine Prun c_laws_eqTenant (by simp [r_laws_eqTenant]) (by simp) ?_
  unfold k_laws_eqTenant r_laws_eqTenant
  simp only [wTenant] at ha
  simp [sTenant]
  refine callG_F (h_eqJobS a.queue (by omega)) (by simp) ?_
  simp
  refine callG_F (h_eqOutcomeS a.out (by omega)) (by simp) ?_
  simp
end Go.Am
-- Tenant_eq
namespace Go.Am
open Go.Proofs
set_option maxHeartbeats 4000000
set_option maxRecDepth 100000
-- 48 loop.example/g00485/laws.eqTenantS
def k_laws_eqTenantS : K :=
 .seq (
  .reg none [⟨(some 4), none, .asn (.c (.bool false))⟩]) (
 .seq (
  .seq (
   .reg none [⟨(some 6), none, .mv (.t 0)⟩,
     ⟨(some 7), none, .len (.t 6)⟩,
     ⟨(some 8), none, .mv (.t 1)⟩,
     ⟨(some 9), none, .len (.t 8)⟩,
     ⟨(some 10), none, .bin .neq (.t 7) (.t 9)⟩]) (
  .cond (.t 10) (
   .seq (
    .reg none [⟨(some 4), none, .asn (.c (.bool false))⟩]) (
   .ret)) (
   .skip))) (
 .seq (
  .seq (
   .reg none [⟨(some 5), none, .asn (.c (.int .i64 (0)))⟩]) (
  .block 0 (
   .loop (some ([0, 1, 5], [0, 1, 5, 1000])) (
    .seq (
     .seq (
      .reg none [⟨(some 11), none, .mv (.t 5)⟩,
        ⟨(some 12), none, .mv (.t 0)⟩,
        ⟨(some 13), none, .len (.t 12)⟩,
        ⟨(some 14), none, .bin .lss (.t 11) (.t 13)⟩]) (
     .cond (.t 14) (
      .skip) (
      .exit 0))) (
    .seq (
     .block 1 (
      .seq (
       .drw none 10 [⟨(some 17), none, .mv (.t 0)⟩,
         ⟨(some 18), none, .mv (.t 5)⟩,
         ⟨(some 19), none, .iad 10 (.t 17) (.t 18)⟩,
         ⟨(some 20), none, .ld 10 true (.t 19)⟩,
         ⟨(some 21), none, .mv (.t 1)⟩,
         ⟨(some 22), none, .mv (.t 5)⟩,
         ⟨(some 23), none, .iad 10 (.t 21) (.t 22)⟩,
         ⟨(some 24), none, .ld 10 true (.t 23)⟩,
         ⟨(some 25), none, .call 86 [(.t 20), (.t 24)]⟩,
         ⟨(some 26), none, .not (.t 25)⟩]) (
      .cond (.t 26) (
       .seq (
        .reg none [⟨(some 4), none, .asn (.c (.bool false))⟩]) (
       .ret)) (
       .skip)))) (
    .reg none [⟨(some 15), none, .mv (.t 5)⟩,
      ⟨(some 16), none, .bin .add (.t 15) (.c (.int .i64 (1)))⟩,
      ⟨(some 5), none, .asn (.t 16)⟩])))))) (
 .seq (
  .reg none [⟨(some 4), none, .asn (.c (.bool true))⟩]) (
 .ret))))
def r_laws_eqTenantS : Nat × List RV := (27, [.t 4])

theorem c_laws_eqTenantS : cmpS PT PF PA (Tryz.prog.funcs[48]?) = some (r_laws_eqTenantS.1, r_laws_eqTenantS.2, stripK k_laws_eqTenantS) := by kernel_rfl

theorem h_eqTenantS (xs : List TTenant) (hx : wL wTenant xs < 2 ^ 40) : CallsF Tryz.prog 48 [.one (.ar false 0 10 (xs.map sTenant)), .one (.ar false 0 10 (xs.map sTenant))] (aB true) := by
  refine Prun c_laws_eqTenantS (by simp [r_laws_eqTenantS]) (by simp) ?_
  unfold k_laws_eqTenantS r_laws_eqTenantS
  have hlen := wL_len wTenant xs
  simp
  refine awp_loop (fun n σ => ∃ i : Nat, i ≤ xs.length ∧ n = xs.length - i ∧ σ = ⟨[(0, .one (.ar false 0 10 (xs.map sTenant))), (1, .one (.ar false 0 10 (xs.map sTenant))), (5, aI i)], []⟩) (xs.length) ⟨0, by simp⟩ ?_
  rintro n σ ⟨i, hi, rfl, rfl⟩
  by_cases h : i < xs.length
  · have hw := wL_get wTenant xs i h
    simp [h, sTenant]
    refine ⟨_, by simp, h_eqTenant xs[i] (by omega), ?_⟩
    simp
    refine ⟨xs.length - (i + 1), by omega, i + 1, by omega, rfl, ?_⟩
    rw [wrapI (by omega) (by omega)]
    simp
  · simp [h]
end Go.Am
-- House_eq1
namespace Go.Am
open Go.Proofs
set_option maxHeartbeats 4000000
set_option maxRecDepth 100000
-- 10 loop.example/g00485/laws.eqHouse
def k_laws_eqHouse : K :=
 .seq (
  .reg none [⟨(some 2), none, .box 33 5 (.t 0)⟩,
    ⟨(some 3), none, .box 33 5 (.t 1)⟩,
    ⟨(some 4), none, .asn (.c (.bool false))⟩]) (
 .seq (
  .seq (
   .reg none [⟨(some 5), none, .fad 0 (.t 2)⟩,
     ⟨(some 6), none, .ld 1 false (.t 5)⟩,
     ⟨(some 7), none, .fad 0 (.t 3)⟩,
     ⟨(some 8), none, .ld 1 false (.t 7)⟩,
     ⟨(some 9), none, .bin .neq (.t 6) (.t 8)⟩]) (
  .cond (.t 9) (
   .seq (
    .reg none [⟨(some 4), none, .asn (.c (.bool false))⟩]) (
   .ret)) (
   .skip))) (
 .seq (
  .seq (
   .reg none [⟨(some 10), none, .fad 1 (.t 2)⟩,
     ⟨(some 11), none, .ld 1 false (.t 10)⟩,
     ⟨(some 12), none, .fad 1 (.t 3)⟩,
     ⟨(some 13), none, .ld 1 false (.t 12)⟩,
     ⟨(some 14), none, .bin .neq (.t 11) (.t 13)⟩]) (
  .cond (.t 14) (
   .seq (
    .reg none [⟨(some 4), none, .asn (.c (.bool false))⟩]) (
   .ret)) (
   .skip))) (
 .seq (
  .seq (
   .reg none [⟨(some 15), none, .fad 2 (.t 2)⟩,
     ⟨(some 16), none, .ld 1 false (.t 15)⟩,
     ⟨(some 17), none, .fad 2 (.t 3)⟩,
     ⟨(some 18), none, .ld 1 false (.t 17)⟩,
     ⟨(some 19), none, .call 46 [(.t 16), (.t 18)]⟩,
     ⟨(some 20), none, .not (.t 19)⟩]) (
  .cond (.t 20) (
   .seq (
    .reg none [⟨(some 4), none, .asn (.c (.bool false))⟩]) (
   .ret)) (
   .skip))) (
 .seq (
  .seq (
   .reg none [⟨(some 21), none, .fad 3 (.t 2)⟩,
     ⟨(some 22), none, .ld 1 false (.t 21)⟩,
     ⟨(some 23), none, .fad 3 (.t 3)⟩,
     ⟨(some 24), none, .ld 1 false (.t 23)⟩,
     ⟨(some 25), none, .call 47 [(.t 22), (.t 24)]⟩,
     ⟨(some 26), none, .not (.t 25)⟩]) (
  .cond (.t 26) (
   .seq (
    .reg none [⟨(some 4), none, .asn (.c (.bool false))⟩]) (
   .ret)) (
   .skip))) (
 .seq (
  .seq (
   .reg none [⟨(some 27), none, .fad 4 (.t 2)⟩,
     ⟨(some 28), none, .ld 1 false (.t 27)⟩,
     ⟨(some 29), none, .fad 4 (.t 3)⟩,
     ⟨(some 30), none, .ld 1 false (.t 29)⟩,
     ⟨(some 31), none, .call 48 [(.t 28), (.t 30)]⟩,
     ⟨(some 32), none, .not (.t 31)⟩]) (
  .cond (.t 32) (
   .seq (
    .reg none [⟨(some 4), none, .asn (.c (.bool false))⟩]) (
   .ret)) (
   .skip))) (
 .seq (
  .reg none [⟨(some 4), none, .asn (.c (.bool true))⟩]) (
 .ret)))))))
def r_laws_eqHouse : Nat × List RV := (33, [.t 4])

theorem c_laws_eqHouse : cmpS PT PF PA (Tryz.prog.funcs[10]?) = some (r_laws_eqHouse.1, r_laws_eqHouse.2, stripK k_laws_eqHouse) := by kernel_rfl

theorem h_eqHouse (a : THouse) (ha : wHouse a < 2 ^ 40) : CallsF Tryz.prog 10 [.agg (sHouse a), .agg (sHouse a)] (aB true) := by
  refine Prun c_laws_eqHouse (by simp [r_laws_eqHouse]) (by simp) ?_
  unfold k_laws_eqHouse r_laws_eqHouse
  simp only [wHouse] at ha
  simp [sHouse]
  refine callG_F (h_eqGramS a.grams (by omega)) (by simp) ?_
  simp
  refine callG_F (h_eqStoreS a.stores (by omega)) (by simp) ?_
  simp
  refine callG_F (h_eqTenantS a.tenants (by omega)) (by simp) ?_
  simp
end Go.Am
-- intm
namespace Go.Am
open Go.Proofs
set_option maxHeartbeats 4000000
set_option maxRecDepth 100000
-- 95 loop.example/g00485/laws.szIntS
def k_laws_szIntS : K :=
 .seq (
  .reg none [⟨(some 4), none, .asn (.c (.int .i64 (0)))⟩]) (
 .seq (
  .reg none [⟨(some 5), none, .mv (.t 1)⟩,
    ⟨(some 6), none, .mv (.t 0)⟩,
    ⟨(some 7), none, .len (.t 6)⟩,
    ⟨(some 8), none, .bin .sub (.t 5) (.t 7)⟩,
    ⟨(some 1), none, .asn (.t 8)⟩]) (
 .seq (
  .seq (
   .reg none [⟨(some 9), none, .mv (.t 1)⟩,
     ⟨(some 10), none, .bin .lss (.t 9) (.c (.int .i64 (0)))⟩]) (
  .cond (.t 10) (
   .seq (
    .reg none [⟨(some 4), none, .asn (.c (.int .i64 (-1)))⟩]) (
   .ret)) (
   .skip))) (
 .seq (
  .reg none [⟨(some 11), none, .mv (.t 1)⟩,
    ⟨(some 4), none, .asn (.t 11)⟩]) (
 .ret))))
def r_laws_szIntS : Nat × List RV := (12, [.t 4])

theorem c_laws_szIntS : cmpS PT PF PA (Tryz.prog.funcs[95]?) = some (r_laws_szIntS.1, r_laws_szIntS.2, stripK k_laws_szIntS) := by kernel_rfl

theorem h_szIntS (xs : List Int) (left : Int) (h : lL l0 xs) (h2 : 0 ≤ left) (h3 : left < 2 ^ 40) : CallsF Tryz.prog 95 [.one (.ar false 0 1 (xs.map rI)), aI left] (aI (lft left (wL w0 xs))) := by
  refine Prun c_laws_szIntS (by simp [r_laws_szIntS]) (by simp) ?_
  unfold k_laws_szIntS r_laws_szIntS
  have h := h.1
  rw [wL_w0, lft]
  have hw : IntKind.i64.wrap (left - xs.length) = left - xs.length := wrapI (by omega) (by omega)
  by_cases h : left - xs.length < 0
  · simp [hw, h]
  · simp [hw, h]
end Go.Am
-- IntSS_sz
namespace Go.Am
open Go.Proofs
set_option maxHeartbeats 4000000
set_option maxRecDepth 100000
-- 87 loop.example/g00485/laws.szIntSS
def k_laws_szIntSS : K :=
 .seq (
  .reg none [⟨(some 4), none, .asn (.c (.int .i64 (0)))⟩]) (
 .seq (
  .reg none [⟨(some 6), none, .mv (.t 1)⟩,
    ⟨(some 7), none, .mv (.t 0)⟩,
    ⟨(some 8), none, .len (.t 7)⟩,
    ⟨(some 9), none, .bin .sub (.t 6) (.t 8)⟩,
    ⟨(some 1), none, .asn (.t 9)⟩]) (
 .seq (
  .seq (
   .reg none [⟨(some 10), none, .mv (.t 1)⟩,
     ⟨(some 11), none, .bin .lss (.t 10) (.c (.int .i64 (0)))⟩]) (
  .cond (.t 11) (
   .seq (
    .reg none [⟨(some 4), none, .asn (.c (.int .i64 (-1)))⟩]) (
   .ret)) (
   .skip))) (
 .seq (
  .seq (
   .reg none [⟨(some 5), none, .asn (.c (.int .i64 (0)))⟩]) (
  .block 0 (
   .loop (some ([0, 1, 5], [0, 1, 5, 1000])) (
    .seq (
     .seq (
      .reg none [⟨(some 12), none, .mv (.t 5)⟩,
        ⟨(some 13), none, .mv (.t 0)⟩,
        ⟨(some 14), none, .len (.t 13)⟩,
        ⟨(some 15), none, .bin .lss (.t 12) (.t 14)⟩]) (
     .cond (.t 15) (
      .skip) (
      .exit 0))) (
    .seq (
     .block 1 (
      .seq (
       .reg none [⟨(some 18), none, .mv (.t 0)⟩,
         ⟨(some 19), none, .mv (.t 5)⟩,
         ⟨(some 20), none, .iad 1 (.t 18) (.t 19)⟩,
         ⟨(some 21), none, .ld 1 false (.t 20)⟩,
         ⟨(some 22), none, .mv (.t 1)⟩,
         ⟨(some 23), none, .call 95 [(.t 21), (.t 22)]⟩,
         ⟨(some 1), none, .asn (.t 23)⟩]) (
      .seq (
       .reg none [⟨(some 24), none, .mv (.t 1)⟩,
         ⟨(some 25), none, .bin .lss (.t 24) (.c (.int .i64 (0)))⟩]) (
      .cond (.t 25) (
       .seq (
        .reg none [⟨(some 4), none, .asn (.c (.int .i64 (-1)))⟩]) (
       .ret)) (
       .skip))))) (
    .reg none [⟨(some 16), none, .mv (.t 5)⟩,
      ⟨(some 17), none, .bin .add (.t 16) (.c (.int .i64 (1)))⟩,
      ⟨(some 5), none, .asn (.t 17)⟩])))))) (
 .seq (
  .reg none [⟨(some 26), none, .mv (.t 1)⟩,
    ⟨(some 4), none, .asn (.t 26)⟩]) (
 .ret)))))
def r_laws_szIntSS : Nat × List RV := (27, [.t 4])

theorem c_laws_szIntSS : cmpS PT PF PA (Tryz.prog.funcs[87]?) = some (r_laws_szIntSS.1, r_laws_szIntSS.2, stripK k_laws_szIntSS) := by kernel_rfl

theorem h_szIntSS (xs : List (List Int)) (left : Int) (hl : lL (lL l0) xs) (h2 : 0 ≤ left) (h3 : left < 2 ^ 40) : CallsF Tryz.prog 87 [.one (.ar false 0 1 (xs.map sIS)), aI left] (aI (lft left (wL (wL w0) xs))) := by
  refine Prun c_laws_szIntSS (by simp [r_laws_szIntSS]) (by simp) ?_
  unfold k_laws_szIntSS r_laws_szIntSS
  have hlen := hl.1
  have hlw := wL_len (wL w0) xs
  have w1 : IntKind.i64.wrap (left - xs.length) = left - xs.length := wrapI (by omega) (by omega)
  by_cases h1 : left - (xs.length : Int) < 0
  · rw [lft_neg (by omega)]
    simp [w1, h1]
  simp [w1, h1]
  refine awp_loop (fun n σ => ∃ i : Nat, i ≤ xs.length ∧ n = xs.length - i ∧ (wL (wL w0) (xs.take i) : Int) - i ≤ left - xs.length ∧ σ = ⟨[(0, .one (.ar false 0 1 (xs.map sIS))), (1, aI (left - xs.length - ((wL (wL w0) (xs.take i) : Int) - i))), (5, aI i)], []⟩) (xs.length) ⟨0, by simp [wL]; omega⟩ ?_
  rintro n σ ⟨i, hi, rfl, hle, rfl⟩
  have hge := wL_len (wL w0) (xs.take i)
  rw [List.length_take, Nat.min_eq_left hi] at hge
  by_cases h : i < xs.length
  · have hst := wL_take (wL w0) h
    have hle2 := wL_take_le (wL w0) xs (i + 1)
    have hlen2 := wL_len (wL w0) (xs.drop (i + 1))
    have happ := wL_append (wL w0) (xs.take (i + 1)) (xs.drop (i + 1))
    rw [List.take_append_drop] at happ
    rw [List.length_drop] at hlen2
    simp [h, sIS]
    refine callG_F (h_szIntS xs[i] _ (hl.2 i h) (by omega) (by omega)) (by simp) ?_
    generalize hv : left - (xs.length : Int) - ((wL (wL w0) (xs.take i) : Int) - i) = v at *
    by_cases h4 : v < ((wL w0) xs[i] : Int)
    · simp only [lft_neg h4]
      rw [lft_neg (by omega)]
      simp
    · have e : lft v ((wL w0) xs[i]) = v - (wL w0) xs[i] := lft_pos (by omega)
      have n1 : ¬ v - ((wL w0) xs[i] : Int) < 0 := by omega
      simp [e, n1]
      refine ⟨xs.length - (i + 1), by omega, i + 1, by omega, rfl, by omega, ?_⟩
      rw [wrapI (by omega) (by omega)]
      simp; omega
  · have : i = xs.length := by omega
    subst this
    rw [List.take_length] at hle
    rw [lft_pos (by omega)]
    simp
    omega
end Go.Am
-- IntSSS_sz
namespace Go.Am
open Go.Proofs
set_option maxHeartbeats 4000000
set_option maxRecDepth 100000
-- 49 loop.example/g00485/laws.szIntSSS
def k_laws_szIntSSS : K :=
 .seq (
  .reg none [⟨(some 4), none, .asn (.c (.int .i64 (0)))⟩]) (
 .seq (
  .reg none [⟨(some 6), none, .mv (.t 1)⟩,
    ⟨(some 7), none, .mv (.t 0)⟩,
    ⟨(some 8), none, .len (.t 7)⟩,
    ⟨(some 9), none, .bin .sub (.t 6) (.t 8)⟩,
    ⟨(some 1), none, .asn (.t 9)⟩]) (
 .seq (
  .seq (
   .reg none [⟨(some 10), none, .mv (.t 1)⟩,
     ⟨(some 11), none, .bin .lss (.t 10) (.c (.int .i64 (0)))⟩]) (
  .cond (.t 11) (
   .seq (
    .reg none [⟨(some 4), none, .asn (.c (.int .i64 (-1)))⟩]) (
   .ret)) (
   .skip))) (
 .seq (
  .seq (
   .reg none [⟨(some 5), none, .asn (.c (.int .i64 (0)))⟩]) (
  .block 0 (
   .loop (some ([0, 1, 5], [0, 1, 5, 1000])) (
    .seq (
     .seq (
      .reg none [⟨(some 12), none, .mv (.t 5)⟩,
        ⟨(some 13), none, .mv (.t 0)⟩,
        ⟨(some 14), none, .len (.t 13)⟩,
        ⟨(some 15), none, .bin .lss (.t 12) (.t 14)⟩]) (
     .cond (.t 15) (
      .skip) (
      .exit 0))) (
    .seq (
     .block 1 (
      .seq (
       .reg none [⟨(some 18), none, .mv (.t 0)⟩,
         ⟨(some 19), none, .mv (.t 5)⟩,
         ⟨(some 20), none, .iad 1 (.t 18) (.t 19)⟩,
         ⟨(some 21), none, .ld 1 false (.t 20)⟩,
         ⟨(some 22), none, .mv (.t 1)⟩,
         ⟨(some 23), none, .call 87 [(.t 21), (.t 22)]⟩,
         ⟨(some 1), none, .asn (.t 23)⟩]) (
      .seq (
       .reg none [⟨(some 24), none, .mv (.t 1)⟩,
         ⟨(some 25), none, .bin .lss (.t 24) (.c (.int .i64 (0)))⟩]) (
      .cond (.t 25) (
       .seq (
        .reg none [⟨(some 4), none, .asn (.c (.int .i64 (-1)))⟩]) (
       .ret)) (
       .skip))))) (
    .reg none [⟨(some 16), none, .mv (.t 5)⟩,
      ⟨(some 17), none, .bin .add (.t 16) (.c (.int .i64 (1)))⟩,
      ⟨(some 5), none, .asn (.t 17)⟩])))))) (
 .seq (
  .reg none [⟨(some 26), none, .mv (.t 1)⟩,
    ⟨(some 4), none, .asn (.t 26)⟩]) (
 .ret)))))
def r_laws_szIntSSS : Nat × List RV := (27, [.t 4])

theorem c_laws_szIntSSS : cmpS PT PF PA (Tryz.prog.funcs[49]?) = some (r_laws_szIntSSS.1, r_laws_szIntSSS.2, stripK k_laws_szIntSSS) := by kernel_rfl

theorem h_szIntSSS (xs : List (List (List Int))) (left : Int) (hl : lL (lL (lL l0)) xs) (h2 : 0 ≤ left) (h3 : left < 2 ^ 40) : CallsF Tryz.prog 49 [.one (.ar false 0 1 (xs.map sISS)), aI left] (aI (lft left (wL (wL (wL w0)) xs))) := by
  refine Prun c_laws_szIntSSS (by simp [r_laws_szIntSSS]) (by simp) ?_
  unfold k_laws_szIntSSS r_laws_szIntSSS
  have hlen := hl.1
  have hlw := wL_len (wL (wL w0)) xs
  have w1 : IntKind.i64.wrap (left - xs.length) = left - xs.length := wrapI (by omega) (by omega)
  by_cases h1 : left - (xs.length : Int) < 0
  · rw [lft_neg (by omega)]
    simp [w1, h1]
  simp [w1, h1]
  refine awp_loop (fun n σ => ∃ i : Nat, i ≤ xs.length ∧ n = xs.length - i ∧ (wL (wL (wL w0)) (xs.take i) : Int) - i ≤ left - xs.length ∧ σ = ⟨[(0, .one (.ar false 0 1 (xs.map sISS))), (1, aI (left - xs.length - ((wL (wL (wL w0)) (xs.take i) : Int) - i))), (5, aI i)], []⟩) (xs.length) ⟨0, by simp [wL]; omega⟩ ?_
  rintro n σ ⟨i, hi, rfl, hle, rfl⟩
  have hge := wL_len (wL (wL w0)) (xs.take i)
  rw [List.length_take, Nat.min_eq_left hi] at hge
  by_cases h : i < xs.length
  · have hst := wL_take (wL (wL w0)) h
    have hle2 := wL_take_le (wL (wL w0)) xs (i + 1)
    have hlen2 := wL_len (wL (wL w0)) (xs.drop (i + 1))
    have happ := wL_append (wL (wL w0)) (xs.take (i + 1)) (xs.drop (i + 1))
    rw [List.take_append_drop] at happ
    rw [List.length_drop] at hlen2
    simp [h, sISS]
    refine callG_F (h_szIntSS xs[i] _ (hl.2 i h) (by omega) (by omega)) (by simp) ?_
    generalize hv : left - (xs.length : Int) - ((wL (wL (wL w0)) (xs.take i) : Int) - i) = v at *
    by_cases h4 : v < ((wL (wL w0)) xs[i] : Int)
    · simp only [lft_neg h4]
      rw [lft_neg (by omega)]
      simp
    · have e : lft v ((wL (wL w0)) xs[i]) = v - (wL (wL w0)) xs[i] := lft_pos (by omega)
      have n1 : ¬ v - ((wL (wL w0)) xs[i] : Int) < 0 := by omega
      simp [e, n1]
      refine ⟨xs.length - (i + 1), by omega, i + 1, by omega, rfl, by omega, ?_⟩
      rw [wrapI (by omega) (by omega)]
      simp; omega
  · have : i = xs.length := by omega
    subst this
    rw [List.take_length] at hle
    rw [lft_pos (by omega)]
    simp
    omega
end Go.Am
-- Gram_sz1
namespace Go.Am
open Go.Proofs
set_option maxHeartbeats 4000000
set_option maxRecDepth 100000
-- 11 loop.example/g00485/laws.szGram
def k_laws_szGram : K :=
 .seq (
  .reg none [⟨(some 2), none, .box 38 1 (.t 0)⟩,
    ⟨(some 4), none, .asn (.c (.int .i64 (0)))⟩]) (
 .seq (
  .reg none [⟨(some 5), none, .fad 0 (.t 2)⟩,
    ⟨(some 6), none, .ld 1 false (.t 5)⟩,
    ⟨(some 7), none, .mv (.t 1)⟩,
    ⟨(some 8), none, .call 49 [(.t 6), (.t 7)]⟩,
    ⟨(some 1), none, .asn (.t 8)⟩]) (
 .seq (
  .seq (
   .reg none [⟨(some 9), none, .mv (.t 1)⟩,
     ⟨(some 10), none, .bin .lss (.t 9) (.c (.int .i64 (0)))⟩]) (
  .cond (.t 10) (
   .seq (
    .reg none [⟨(some 4), none, .asn (.c (.int .i64 (-1)))⟩]) (
   .ret)) (
   .skip))) (
 .seq (
  .reg none [⟨(some 11), none, .mv (.t 1)⟩,
    ⟨(some 4), none, .asn (.t 11)⟩]) (
 .ret))))
def r_laws_szGram : Nat × List RV := (12, [.t 4])

theorem c_laws_szGram : cmpS PT PF PA (Tryz.prog.funcs[11]?) = some (r_laws_szGram.1, r_laws_szGram.2, stripK k_laws_szGram) := by kernel_rfl

theorem h_szGram (a : TGram) (left : Int) (h : lGram a) (h2 : 0 ≤ left) (h3 : left < 2 ^ 40) : CallsF Tryz.prog 11 [.agg (sGram a), aI left] (aI (lft left (wGram a))) := by
  refine Prun c_laws_szGram (by simp [r_laws_szGram]) (by simp) ?_
  unfold k_laws_szGram r_laws_szGram
  simp only [lGram] at h
  simp only [wGram]
  have hl0 := h
  simp [sGram]
  refine callG_F (h_szIntSSS a.parts (left) hl0 (by omega) (by omega)) (by simp) ?_
  by_cases g0 : left < (wL (wL (wL w0)) a.parts : Int)
  case pos => simp only [lft_neg g0]; simp; try rw [lft_neg (by omega)]
  simp only [lft_pos (show (wL (wL (wL w0)) a.parts : Int) ≤ left by omega)]
  have n0 : ¬ left - (wL (wL (wL w0)) a.parts : Int) < 0 := by omega
  simp [n0]
  try rw [lft_pos (by omega)]
  try omega
end Go.Am
-- Gram_sz
namespace Go.Am
open Go.Proofs
set_option maxHeartbeats 4000000
set_option maxRecDepth 100000
-- 31 loop.example/g00485/laws.szGramS
def k_laws_szGramS : K :=
 .seq (
  .reg none [⟨(some 4), none, .asn (.c (.int .i64 (0)))⟩]) (
 .seq (
  .reg none [⟨(some 6), none, .mv (.t 1)⟩,
    ⟨(some 7), none, .mv (.t 0)⟩,
    ⟨(some 8), none, .len (.t 7)⟩,
    ⟨(some 9), none, .bin .sub (.t 6) (.t 8)⟩,
    ⟨(some 1), none, .asn (.t 9)⟩]) (
 .seq (
  .seq (
   .reg none [⟨(some 10), none, .mv (.t 1)⟩,
     ⟨(some 11), none, .bin .lss (.t 10) (.c (.int .i64 (0)))⟩]) (
  .cond (.t 11) (
   .seq (
    .reg none [⟨(some 4), none, .asn (.c (.int .i64 (-1)))⟩]) (
   .ret)) (
   .skip))) (
 .seq (
  .seq (
   .reg none [⟨(some 5), none, .asn (.c (.int .i64 (0)))⟩]) (
  .block 0 (
   .loop (some ([0, 1, 5], [0, 1, 5, 1000])) (
    .seq (
     .seq (
      .reg none [⟨(some 12), none, .mv (.t 5)⟩,
        ⟨(some 13), none, .mv (.t 0)⟩,
        ⟨(some 14), none, .len (.t 13)⟩,
        ⟨(some 15), none, .bin .lss (.t 12) (.t 14)⟩]) (
     .cond (.t 15) (
      .skip) (
      .exit 0))) (
    .seq (
     .block 1 (
      .seq (
       .reg none [⟨(some 18), none, .mv (.t 0)⟩,
         ⟨(some 19), none, .mv (.t 5)⟩,
         ⟨(some 20), none, .iad 1 (.t 18) (.t 19)⟩,
         ⟨(some 21), none, .ld 1 true (.t 20)⟩,
         ⟨(some 22), none, .mv (.t 1)⟩,
         ⟨(some 23), none, .call 11 [(.t 21), (.t 22)]⟩,
         ⟨(some 1), none, .asn (.t 23)⟩]) (
      .seq (
       .reg none [⟨(some 24), none, .mv (.t 1)⟩,
         ⟨(some 25), none, .bin .lss (.t 24) (.c (.int .i64 (0)))⟩]) (
      .cond (.t 25) (
       .seq (
        .reg none [⟨(some 4), none, .asn (.c (.int .i64 (-1)))⟩]) (
       .ret)) (
       .skip))))) (
    .reg none [⟨(some 16), none, .mv (.t 5)⟩,
      ⟨(some 17), none, .bin .add (.t 16) (.c (.int .i64 (1)))⟩,
      ⟨(some 5), none, .asn (.t 17)⟩])))))) (
 .seq (
  .reg none [⟨(some 26), none, .mv (.t 1)⟩,
    ⟨(some 4), none, .asn (.t 26)⟩]) (
 .ret)))))
def r_laws_szGramS : Nat × List RV := (27, [.t 4])

theorem c_laws_szGramS : cmpS PT PF PA (Tryz.prog.funcs[31]?) = some (r_laws_szGramS.1, r_laws_szGramS.2, stripK k_laws_szGramS) := by kernel_rfl

theorem h_szGramS (xs : List TGram) (left : Int) (hl : lL lGram xs) (h2 : 0 ≤ left) (h3 : left < 2 ^ 40) : CallsF Tryz.prog 31 [.one (.ar false 0 1 (xs.map sGram)), aI left] (aI (lft left (wL wGram xs))) := by
  refine Prun c_laws_szGramS (by simp [r_laws_szGramS]) (by simp) ?_
  unfold k_laws_szGramS r_laws_szGramS
  have hlen := hl.1
  have hlw := wL_len wGram xs
  have w1 : IntKind.i64.wrap (left - xs.length) = left - xs.length := wrapI (by omega) (by omega)
  by_cases h1 : left - (xs.length : Int) < 0
  · rw [lft_neg (by omega)]
    simp [w1, h1]
  simp [w1, h1]
  refine awp_loop (fun n σ => ∃ i : Nat, i ≤ xs.length ∧ n = xs.length - i ∧ (wL wGram (xs.take i) : Int) - i ≤ left - xs.length ∧ σ = ⟨[(0, .one (.ar false 0 1 (xs.map sGram))), (1, aI (left - xs.length - ((wL wGram (xs.take i) : Int) - i))), (5, aI i)], []⟩) (xs.length) ⟨0, by simp [wL]; omega⟩ ?_
  rintro n σ ⟨i, hi, rfl, hle, rfl⟩
  have hge := wL_len wGram (xs.take i)
  rw [List.length_take, Nat.min_eq_left hi] at hge
  by_cases h : i < xs.length
  · have hst := wL_take wGram h
    have hle2 := wL_take_le wGram xs (i + 1)
    have hlen2 := wL_len wGram (xs.drop (i + 1))
    have happ := wL_append wGram (xs.take (i + 1)) (xs.drop (i + 1))
    rw [List.take_append_drop] at happ
    rw [List.length_drop] at hlen2
    simp [h, sGram]
    refine callG_F (h_szGram xs[i] _ (hl.2 i h) (by omega) (by omega)) (by simp) ?_
    generalize hv : left - (xs.length : Int) - ((wL wGram (xs.take i) : Int) - i) = v at *
    by_cases h4 : v < (wGram xs[i] : Int)
    · simp only [lft_neg h4]
      rw [lft_neg (by omega)]
      simp
    · have e : lft v (wGram xs[i]) = v - wGram xs[i] := lft_pos (by omega)
      have n1 : ¬ v - (wGram xs[i] : Int) < 0 := by omega
      simp [e, n1]
      refine ⟨xs.length - (i + 1), by omega, i + 1, by omega, rfl, by omega, ?_⟩
      rw [wrapI (by omega) (by omega)]
      simp; omega
  · have : i = xs.length := by omega
    subst this
    rw [List.take_length] at hle
    rw [lft_pos (by omega)]
    simp
    omega
end Go.Am
-- Conf_sz1
namespace Go.Am
open Go.Proofs
set_option maxHeartbeats 4000000
set_option maxRecDepth 100000
-- 55 loop.example/g00485/laws.szConf
def k_laws_szConf : K :=
 .seq (
  .reg none [⟨(some 2), none, .box 99 2 (.t 0)⟩,
    ⟨(some 4), none, .asn (.c (.int .i64 (0)))⟩]) (
 .seq (
  .reg none [⟨(some 5), none, .fad 1 (.t 2)⟩,
    ⟨(some 6), none, .ld 1 false (.t 5)⟩,
    ⟨(some 7), none, .mv (.t 1)⟩,
    ⟨(some 8), none, .call 95 [(.t 6), (.t 7)]⟩,
    ⟨(some 1), none, .asn (.t 8)⟩]) (
 .seq (
  .seq (
   .reg none [⟨(some 9), none, .mv (.t 1)⟩,
     ⟨(some 10), none, .bin .lss (.t 9) (.c (.int .i64 (0)))⟩]) (
  .cond (.t 10) (
   .seq (
    .reg none [⟨(some 4), none, .asn (.c (.int .i64 (-1)))⟩]) (
   .ret)) (
   .skip))) (
 .seq (
  .reg none [⟨(some 11), none, .mv (.t 1)⟩,
    ⟨(some 4), none, .asn (.t 11)⟩]) (
 .ret))))
def r_laws_szConf : Nat × List RV := (12, [.t 4])

theorem c_laws_szConf : cmpS PT PF PA (Tryz.prog.funcs[55]?) = some (r_laws_szConf.1, r_laws_szConf.2, stripK k_laws_szConf) := by kernel_rfl

theorem h_szConf (a : TConf) (left : Int) (h : lConf a) (h2 : 0 ≤ left) (h3 : left < 2 ^ 40) : CallsF Tryz.prog 55 [.agg (sConf a), aI left] (aI (lft left (wConf a))) := by
  refine Prun c_laws_szConf (by simp [r_laws_szConf]) (by simp) ?_
  unfold k_laws_szConf r_laws_szConf
  simp only [lConf] at h
  simp only [wConf]
  have hl0 := h
  simp [sConf]
  refine callG_F (h_szIntS a.row (left) hl0 (by omega) (by omega)) (by simp) ?_
  by_cases g0 : left < (wL w0 a.row : Int)
  case pos => simp only [lft_neg g0]; simp; try rw [lft_neg (by omega)]
  simp only [lft_pos (show (wL w0 a.row : Int) ≤ left by omega)]
  have n0 : ¬ left - (wL w0 a.row : Int) < 0 := by omega
  simp [n0]
  try rw [lft_pos (by omega)]
  try omega
end Go.Am
-- Conf_sz
namespace Go.Am
open Go.Proofs
set_option maxHeartbeats 4000000
set_option maxRecDepth 100000
-- 19 loop.example/g00485/laws.szConfS
def k_laws_szConfS : K :=
 .seq (
  .reg none [⟨(some 4), none, .asn (.c (.int .i64 (0)))⟩]) (
 .seq (
  .reg none [⟨(some 6), none, .mv (.t 1)⟩,
    ⟨(some 7), none, .mv (.t 0)⟩,
    ⟨(some 8), none, .len (.t 7)⟩,
    ⟨(some 9), none, .bin .sub (.t 6) (.t 8)⟩,
    ⟨(some 1), none, .asn (.t 9)⟩]) (
 .seq (
  .seq (
   .reg none [⟨(some 10), none, .mv (.t 1)⟩,
     ⟨(some 11), none, .bin .lss (.t 10) (.c (.int .i64 (0)))⟩]) (
  .cond (.t 11) (
   .seq (
    .reg none [⟨(some 4), none, .asn (.c (.int .i64 (-1)))⟩]) (
   .ret)) (
   .skip))) (
 .seq (
  .seq (
   .reg none [⟨(some 5), none, .asn (.c (.int .i64 (0)))⟩]) (
  .block 0 (
   .loop (some ([0, 1, 5], [0, 1, 5, 1000])) (
    .seq (
     .seq (
      .reg none [⟨(some 12), none, .mv (.t 5)⟩,
        ⟨(some 13), none, .mv (.t 0)⟩,
        ⟨(some 14), none, .len (.t 13)⟩,
        ⟨(some 15), none, .bin .lss (.t 12) (.t 14)⟩]) (
     .cond (.t 15) (
      .skip) (
      .exit 0))) (
    .seq (
     .block 1 (
      .seq (
       .reg none [⟨(some 18), none, .mv (.t 0)⟩,
         ⟨(some 19), none, .mv (.t 5)⟩,
         ⟨(some 20), none, .iad 2 (.t 18) (.t 19)⟩,
         ⟨(some 21), none, .ld 2 true (.t 20)⟩,
         ⟨(some 22), none, .mv (.t 1)⟩,
         ⟨(some 23), none, .call 55 [(.t 21), (.t 22)]⟩,
         ⟨(some 1), none, .asn (.t 23)⟩]) (
      .seq (
       .reg none [⟨(some 24), none, .mv (.t 1)⟩,
         ⟨(some 25), none, .bin .lss (.t 24) (.c (.int .i64 (0)))⟩]) (
      .cond (.t 25) (
       .seq (
        .reg none [⟨(some 4), none, .asn (.c (.int .i64 (-1)))⟩]) (
       .ret)) (
       .skip))))) (
    .reg none [⟨(some 16), none, .mv (.t 5)⟩,
      ⟨(some 17), none, .bin .add (.t 16) (.c (.int .i64 (1)))⟩,
      ⟨(some 5), none, .asn (.t 17)⟩])))))) (
 .seq (
  .reg none [⟨(some 26), none, .mv (.t 1)⟩,
    ⟨(some 4), none, .asn (.t 26)⟩]) (
 .ret)))))
def r_laws_szConfS : Nat × List RV := (27, [.t 4])

theorem c_laws_szConfS : cmpS PT PF PA (Tryz.prog.funcs[19]?) = some (r_laws_szConfS.1, r_laws_szConfS.2, stripK k_laws_szConfS) := by kernel_rfl

theorem h_szConfS (xs : List TConf) (left : Int) (hl : lL lConf xs) (h2 : 0 ≤ left) (h3 : left < 2 ^ 40) : CallsF Tryz.prog 19 [.one (.ar false 0 2 (xs.map sConf)), aI left] (aI (lft left (wL wConf xs))) := by
  refine Prun c_laws_szConfS (by simp [r_laws_szConfS]) (by simp) ?_
  unfold k_laws_szConfS r_laws_szConfS
  have hlen := hl.1
  have hlw := wL_len wConf xs
  have w1 : IntKind.i64.wrap (left - xs.length) = left - xs.length := wrapI (by omega) (by omega)
  by_cases h1 : left - (xs.length : Int) < 0
  · rw [lft_neg (by omega)]
    simp [w1, h1]
  simp [w1, h1]
  refine awp_loop (fun n σ => ∃ i : Nat, i ≤ xs.length ∧ n = xs.length - i ∧ (wL wConf (xs.take i) : Int) - i ≤ left - xs.length ∧ σ = ⟨[(0, .one (.ar false 0 2 (xs.map sConf))), (1, aI (left - xs.length - ((wL wConf (xs.take i) : Int) - i))), (5, aI i)], []⟩) (xs.length) ⟨0, by simp [wL]; omega⟩ ?_
  rintro n σ ⟨i, hi, rfl, hle, rfl⟩
  have hge := wL_len wConf (xs.take i)
  rw [List.length_take, Nat.min_eq_left hi] at hge
  by_cases h : i < xs.length
  · have hst := wL_take wConf h
    have hle2 := wL_take_le wConf xs (i + 1)
    have hlen2 := wL_len wConf (xs.drop (i + 1))
    have happ := wL_append wConf (xs.take (i + 1)) (xs.drop (i + 1))
    rw [List.take_append_drop] at happ
    rw [List.length_drop] at hlen2
    simp [h, sConf]
    refine callG_F (h_szConf xs[i] _ (hl.2 i h) (by omega) (by omega)) (by simp) ?_
    generalize hv : left - (xs.length : Int) - ((wL wConf (xs.take i) : Int) - i) = v at *
    by_cases h4 : v < (wConf xs[i] : Int)
    · simp only [lft_neg h4]
      rw [lft_neg (by omega)]
      simp
    · have e : lft v (wConf xs[i]) = v - wConf xs[i] := lft_pos (by omega)
      have n1 : ¬ v - (wConf xs[i] : Int) < 0 := by omega
      simp [e, n1]
      refine ⟨xs.length - (i + 1), by omega, i + 1, by omega, rfl, by omega, ?_⟩
      rw [wrapI (by omega) (by omega)]
      simp; omega
  · have : i = xs.length := by omega
    subst this
    rw [List.take_length] at hle
    rw [lft_pos (by omega)]
    simp
    omega
end Go.Am
-- Line_sz1
namespace Go.Am
open Go.Proofs
set_option maxHeartbeats 4000000
set_option maxRecDepth 100000
-- 94 loop.example/g00485/laws.szLine
def k_laws_szLine : K :=
 .seq (
  .reg none [⟨(some 2), none, .box 139 3 (.t 0)⟩,
    ⟨(some 4), none, .asn (.c (.int .i64 (0)))⟩]) (
 .seq (
  .reg none [⟨(some 5), none, .fad 0 (.t 2)⟩,
    ⟨(some 6), none, .ld 1 false (.t 5)⟩,
    ⟨(some 7), none, .mv (.t 1)⟩,
    ⟨(some 8), none, .call 19 [(.t 6), (.t 7)]⟩,
    ⟨(some 1), none, .asn (.t 8)⟩]) (
 .seq (
  .seq (
   .reg none [⟨(some 9), none, .mv (.t 1)⟩,
     ⟨(some 10), none, .bin .lss (.t 9) (.c (.int .i64 (0)))⟩]) (
  .cond (.t 10) (
   .seq (
    .reg none [⟨(some 4), none, .asn (.c (.int .i64 (-1)))⟩]) (
   .ret)) (
   .skip))) (
 .seq (
  .reg none [⟨(some 11), none, .fad 2 (.t 2)⟩,
    ⟨(some 12), none, .ld 1 false (.t 11)⟩,
    ⟨(some 13), none, .mv (.t 1)⟩,
    ⟨(some 14), none, .call 19 [(.t 12), (.t 13)]⟩,
    ⟨(some 1), none, .asn (.t 14)⟩]) (
 .seq (
  .seq (
   .reg none [⟨(some 15), none, .mv (.t 1)⟩,
     ⟨(some 16), none, .bin .lss (.t 15) (.c (.int .i64 (0)))⟩]) (
  .cond (.t 16) (
   .seq (
    .reg none [⟨(some 4), none, .asn (.c (.int .i64 (-1)))⟩]) (
   .ret)) (
   .skip))) (
 .seq (
  .reg none [⟨(some 17), none, .mv (.t 1)⟩,
    ⟨(some 4), none, .asn (.t 17)⟩]) (
 .ret))))))
def r_laws_szLine : Nat × List RV := (18, [.t 4])

theorem c_laws_szLine : cmpS PT PF PA (Tryz.prog.funcs[94]?) = some (r_laws_szLine.1, r_laws_szLine.2, stripK k_laws_szLine) := by kernel_rfl

theorem h_szLine (a : TLine) (left : Int) (h : lLine a) (h2 : 0 ≤ left) (h3 : left < 2 ^ 40) : CallsF Tryz.prog 94 [.agg (sLine a), aI left] (aI (lft left (wLine a))) := by
  refine Prun c_laws_szLine (by simp [r_laws_szLine]) (by simp) ?_
  unfold k_laws_szLine r_laws_szLine
  simp only [lLine] at h
  simp only [wLine]
  obtain ⟨hl0, hl1⟩ := h
  simp [sLine]
  refine callG_F (h_szConfS a.frm (left) hl0 (by omega) (by omega)) (by simp) ?_
  by_cases g0 : left < (wL wConf a.frm : Int)
  case pos => simp only [lft_neg g0]; simp; try rw [lft_neg (by omega)]
  simp only [lft_pos (show (wL wConf a.frm : Int) ≤ left by omega)]
  have n0 : ¬ left - (wL wConf a.frm : Int) < 0 := by omega
  simp [n0]
  refine callG_F (h_szConfS a.too (left - (wL wConf a.frm : Int)) hl1 (by omega) (by omega)) (by simp) ?_
  by_cases g1 : left - (wL wConf a.frm : Int) < (wL wConf a.too : Int)
  case pos => simp only [lft_neg g1]; simp; try rw [lft_neg (by omega)]
  simp only [lft_pos (show (wL wConf a.too : Int) ≤ left - (wL wConf a.frm : Int) by omega)]
  have n1 : ¬ left - (wL wConf a.frm : Int) - (wL wConf a.too : Int) < 0 := by omega
  simp [n1]
  try rw [lft_pos (by omega)]
  try omega
end Go.Am
-- Line_sz
namespace Go.Am
open Go.Proofs
set_option maxHeartbeats 4000000
set_option maxRecDepth 100000
-- 54 loop.example/g00485/laws.szLineS
def k_laws_szLineS : K :=
 .seq (
  .reg none [⟨(some 4), none, .asn (.c (.int .i64 (0)))⟩]) (
 .seq (
  .reg none [⟨(some 6), none, .mv (.t 1)⟩,
    ⟨(some 7), none, .mv (.t 0)⟩,
    ⟨(some 8), none, .len (.t 7)⟩,
    ⟨(some 9), none, .bin .sub (.t 6) (.t 8)⟩,
    ⟨(some 1), none, .asn (.t 9)⟩]) (
 .seq (
  .seq (
   .reg none [⟨(some 10), none, .mv (.t 1)⟩,
     ⟨(some 11), none, .bin .lss (.t 10) (.c (.int .i64 (0)))⟩]) (
  .cond (.t 11) (
   .seq (
    .reg none [⟨(some 4), none, .asn (.c (.int .i64 (-1)))⟩]) (
   .ret)) (
   .skip))) (
 .seq (
  .seq (
   .reg none [⟨(some 5), none, .asn (.c (.int .i64 (0)))⟩]) (
  .block 0 (
   .loop (some ([0, 1, 5], [0, 1, 5, 1000])) (
    .seq (
     .seq (
      .reg none [⟨(some 12), none, .mv (.t 5)⟩,
        ⟨(some 13), none, .mv (.t 0)⟩,
        ⟨(some 14), none, .len (.t 13)⟩,
        ⟨(some 15), none, .bin .lss (.t 12) (.t 14)⟩]) (
     .cond (.t 15) (
      .skip) (
      .exit 0))) (
    .seq (
     .block 1 (
      .seq (
       .reg none [⟨(some 18), none, .mv (.t 0)⟩,
         ⟨(some 19), none, .mv (.t 5)⟩,
         ⟨(some 20), none, .iad 3 (.t 18) (.t 19)⟩,
         ⟨(some 21), none, .ld 3 true (.t 20)⟩,
         ⟨(some 22), none, .mv (.t 1)⟩,
         ⟨(some 23), none, .call 94 [(.t 21), (.t 22)]⟩,
         ⟨(some 1), none, .asn (.t 23)⟩]) (
      .seq (
       .reg none [⟨(some 24), none, .mv (.t 1)⟩,
         ⟨(some 25), none, .bin .lss (.t 24) (.c (.int .i64 (0)))⟩]) (
      .cond (.t 25) (
       .seq (
        .reg none [⟨(some 4), none, .asn (.c (.int .i64 (-1)))⟩]) (
       .ret)) (
       .skip))))) (
    .reg none [⟨(some 16), none, .mv (.t 5)⟩,
      ⟨(some 17), none, .bin .add (.t 16) (.c (.int .i64 (1)))⟩,
      ⟨(some 5), none, .asn (.t 17)⟩])))))) (
 .seq (
  .reg none [⟨(some 26), none, .mv (.t 1)⟩,
    ⟨(some 4), none, .asn (.t 26)⟩]) (
 .ret)))))
def r_laws_szLineS : Nat × List RV := (27, [.t 4])

theorem c_laws_szLineS : cmpS PT PF PA (Tryz.prog.funcs[54]?) = some (r_laws_szLineS.1, r_laws_szLineS.2, stripK k_laws_szLineS) := by kernel_rfl

theorem h_szLineS (xs : List TLine) (left : Int) (hl : lL lLine xs) (h2 : 0 ≤ left) (h3 : left < 2 ^ 40) : CallsF Tryz.prog 54 [.one (.ar false 0 3 (xs.map sLine)), aI left] (aI (lft left (wL wLine xs))) := by
  refine Prun c_laws_szLineS (by simp [r_laws_szLineS]) (by simp) ?_
  unfold k_laws_szLineS r_laws_szLineS
  have hlen := hl.1
  have hlw := wL_len wLine xs
  have w1 : IntKind.i64.wrap (left - xs.length) = left - xs.length := wrapI (by omega) (by omega)
  by_cases h1 : left - (xs.length : Int) < 0
  · rw [lft_neg (by omega)]
    simp [w1, h1]
  simp [w1, h1]
  refine awp_loop (fun n σ => ∃ i : Nat, i ≤ xs.length ∧ n = xs.length - i ∧ (wL wLine (xs.take i) : Int) - i ≤ left - xs.length ∧ σ = ⟨[(0, .one (.ar false 0 3 (xs.map sLine))), (1, aI (left - xs.length - ((wL wLine (xs.take i) : Int) - i))), (5, aI i)], []⟩) (xs.length) ⟨0, by simp [wL]; omega⟩ ?_
  rintro n σ ⟨i, hi, rfl, hle, rfl⟩
  have hge := wL_len wLine (xs.take i)
  rw [List.length_take, Nat.min_eq_left hi] at hge
  by_cases h : i < xs.length
  · have hst := wL_take wLine h
    have hle2 := wL_take_le wLine xs (i + 1)
    have hlen2 := wL_len wLine (xs.drop (i + 1))
    have happ := wL_append wLine (xs.take (i + 1)) (xs.drop (i + 1))
    rw [List.take_append_drop] at happ
    rw [List.length_drop] at hlen2
    simp [h, sLine]
    refine callG_F (h_szLine xs[i] _ (hl.2 i h) (by omega) (by omega)) (by simp) ?_
    generalize hv : left - (xs.length : Int) - ((wL wLine (xs.take i) : Int) - i) = v at *
    by_cases h4 : v < (wLine xs[i] : Int)
    · simp only [lft_neg h4]
      rw [lft_neg (by omega)]
      simp
    · have e : lft v (wLine xs[i]) = v - wLine xs[i] := lft_pos (by omega)
      have n1 : ¬ v - (wLine xs[i] : Int) < 0 := by omega
      simp [e, n1]
      refine ⟨xs.length - (i + 1), by omega, i + 1, by omega, rfl, by omega, ?_⟩
      rw [wrapI (by omega) (by omega)]
      simp; omega
  · have : i = xs.length := by omega
    subst this
    rw [List.take_length] at hle
    rw [lft_pos (by omega)]
    simp
    omega
end Go.Am
-- Store_sz1
namespace Go.Am
open Go.Proofs
set_option maxHeartbeats 4000000
set_option maxRecDepth 100000
-- 18 loop.example/g00485/laws.szStore
def k_laws_szStore : K :=
 .seq (
  .reg none [⟨(some 2), none, .box 50 2 (.t 0)⟩,
    ⟨(some 4), none, .asn (.c (.int .i64 (0)))⟩]) (
 .seq (
  .reg none [⟨(some 5), none, .fad 1 (.t 2)⟩,
    ⟨(some 6), none, .ld 1 false (.t 5)⟩,
    ⟨(some 7), none, .mv (.t 1)⟩,
    ⟨(some 8), none, .call 54 [(.t 6), (.t 7)]⟩,
    ⟨(some 1), none, .asn (.t 8)⟩]) (
 .seq (
  .seq (
   .reg none [⟨(some 9), none, .mv (.t 1)⟩,
     ⟨(some 10), none, .bin .lss (.t 9) (.c (.int .i64 (0)))⟩]) (
  .cond (.t 10) (
   .seq (
    .reg none [⟨(some 4), none, .asn (.c (.int .i64 (-1)))⟩]) (
   .ret)) (
   .skip))) (
 .seq (
  .reg none [⟨(some 11), none, .mv (.t 1)⟩,
    ⟨(some 4), none, .asn (.t 11)⟩]) (
 .ret))))
def r_laws_szStore : Nat × List RV := (12, [.t 4])

theorem c_laws_szStore : cmpS PT PF PA (Tryz.prog.funcs[18]?) = some (r_laws_szStore.1, r_laws_szStore.2, stripK k_laws_szStore) := by kernel_rfl

theorem h_szStore (a : TStore) (left : Int) (h : lStore a) (h2 : 0 ≤ left) (h3 : left < 2 ^ 40) : CallsF Tryz.prog 18 [.agg (sStore a), aI left] (aI (lft left (wStore a))) := by
  refine Prun c_laws_szStore (by simp [r_laws_szStore]) (by simp) ?_
  unfold k_laws_szStore r_laws_szStore
  simp only [lStore] at h
  simp only [wStore]
  have hl0 := h
  simp [sStore]
  refine callG_F (h_szLineS a.lines (left) hl0 (by omega) (by omega)) (by simp) ?_
  by_cases g0 : left < (wL wLine a.lines : Int)
  case pos => simp only [lft_neg g0]; simp; try rw [lft_neg (by omega)]
  simp only [lft_pos (show (wL wLine a.lines : Int) ≤ left by omega)]
  have n0 : ¬ left - (wL wLine a.lines : Int) < 0 := by omega
  simp [n0]
  try rw [lft_pos (by omega)]
  try omega
end Go.Am
-- Store_sz
namespace Go.Am
open Go.Proofs
set_option maxHeartbeats 4000000
set_option maxRecDepth 100000
-- 32 loop.example/g00485/laws.szStoreS
def k_laws_szStoreS : K :=
 .seq (
  .reg none [⟨(some 4), none, .asn (.c (.int .i64 (0)))⟩]) (
 .seq (
  .reg none [⟨(some 6), none, .mv (.t 1)⟩,
    ⟨(some 7), none, .mv (.t 0)⟩,
    ⟨(some 8), none, .len (.t 7)⟩,
    ⟨(some 9), none, .bin .sub (.t 6) (.t 8)⟩,
    ⟨(some 1), none, .asn (.t 9)⟩]) (
 .seq (
  .seq (
   .reg none [⟨(some 10), none, .mv (.t 1)⟩,
     ⟨(some 11), none, .bin .lss (.t 10) (.c (.int .i64 (0)))⟩]) (
  .cond (.t 11) (
   .seq (
    .reg none [⟨(some 4), none, .asn (.c (.int .i64 (-1)))⟩]) (
   .ret)) (
   .skip))) (
 .seq (
  .seq (
   .reg none [⟨(some 5), none, .asn (.c (.int .i64 (0)))⟩]) (
  .block 0 (
   .loop (some ([0, 1, 5], [0, 1, 5, 1000])) (
    .seq (
     .seq (
      .reg none [⟨(some 12), none, .mv (.t 5)⟩,
        ⟨(some 13), none, .mv (.t 0)⟩,
        ⟨(some 14), none, .len (.t 13)⟩,
        ⟨(some 15), none, .bin .lss (.t 12) (.t 14)⟩]) (
     .cond (.t 15) (
      .skip) (
      .exit 0))) (
    .seq (
     .block 1 (
      .seq (
       .reg none [⟨(some 18), none, .mv (.t 0)⟩,
         ⟨(some 19), none, .mv (.t 5)⟩,
         ⟨(some 20), none, .iad 2 (.t 18) (.t 19)⟩,
         ⟨(some 21), none, .ld 2 true (.t 20)⟩,
         ⟨(some 22), none, .mv (.t 1)⟩,
         ⟨(some 23), none, .call 18 [(.t 21), (.t 22)]⟩,
         ⟨(some 1), none, .asn (.t 23)⟩]) (
      .seq (
       .reg none [⟨(some 24), none, .mv (.t 1)⟩,
         ⟨(some 25), none, .bin .lss (.t 24) (.c (.int .i64 (0)))⟩]) (
      .cond (.t 25) (
       .seq (
        .reg none [⟨(some 4), none, .asn (.c (.int .i64 (-1)))⟩]) (
       .ret)) (
       .skip))))) (
    .reg none [⟨(some 16), none, .mv (.t 5)⟩,
      ⟨(some 17), none, .bin .add (.t 16) (.c (.int .i64 (1)))⟩,
      ⟨(some 5), none, .asn (.t 17)⟩])))))) (
 .seq (
  .reg none [⟨(some 26), none, .mv (.t 1)⟩,
    ⟨(some 4), none, .asn (.t 26)⟩]) (
 .ret)))))
def r_laws_szStoreS : Nat × List RV := (27, [.t 4])

theorem c_laws_szStoreS : cmpS PT PF PA (Tryz.prog.funcs[32]?) = some (r_laws_szStoreS.1, r_laws_szStoreS.2, stripK k_laws_szStoreS) := by kernel_rfl

theorem h_szStoreS (xs : List TStore) (left : Int) (hl : lL lStore xs) (h2 : 0 ≤ left) (h3 : left < 2 ^ 40) : CallsF Tryz.prog 32 [.one (.ar false 0 2 (xs.map sStore)), aI left] (aI (lft left (wL wStore xs))) := by
  refine Prun c_laws_szStoreS (by simp [r_laws_szStoreS]) (by simp) ?_
  unfold k_laws_szStoreS r_laws_szStoreS
  have hlen := hl.1
  have hlw := wL_len wStore xs
  have w1 : IntKind.i64.wrap (left - xs.length) = left - xs.length := wrapI (by omega) (by omega)
  by_cases h1 : left - (xs.length : Int) < 0
  · rw [lft_neg (by omega)]
    simp [w1, h1]
  simp [w1, h1]
  refine awp_loop (fun n σ => ∃ i : Nat, i ≤ xs.length ∧ n = xs.length - i ∧ (wL wStore (xs.take i) : Int) - i ≤ left - xs.length ∧ σ = ⟨[(0, .one (.ar false 0 2 (xs.map sStore))), (1, aI (left - xs.length - ((wL wStore (xs.take i) : Int) - i))), (5, aI i)], []⟩) (xs.length) ⟨0, by simp [wL]; omega⟩ ?_
  rintro n σ ⟨i, hi, rfl, hle, rfl⟩
  have hge := wL_len wStore (xs.take i)
  rw [List.length_take, Nat.min_eq_left hi] at hge
  by_cases h : i < xs.length
  · have hst := wL_take wStore h
    have hle2 := wL_take_le wStore xs (i + 1)
    have hlen2 := wL_len wStore (xs.drop (i + 1))
    have happ := wL_append wStore (xs.take (i + 1)) (xs.drop (i + 1))
    rw [List.take_append_drop] at happ
    rw [List.length_drop] at hlen2
    simp [h, sStore]
    refine callG_F (h_szStore xs[i] _ (hl.2 i h) (by omega) (by omega)) (by simp) ?_
    generalize hv : left - (xs.length : Int) - ((wL wStore (xs.take i) : Int) - i) = v at *
    by_cases h4 : v < (wStore xs[i] : Int)
    · simp only [lft_neg h4]
      rw [lft_neg (by omega)]
      simp
    · have e : lft v (wStore xs[i]) = v - wStore xs[i] := lft_pos (by omega)
      have n1 : ¬ v - (wStore xs[i] : Int) < 0 := by omega
      simp [e, n1]
      refine ⟨xs.length - (i + 1), by omega, i + 1, by omega, rfl, by omega, ?_⟩
      rw [wrapI (by omega) (by omega)]
      simp; omega
  · have : i = xs.length := by omega
    subst this
    rw [List.take_length] at hle
    rw [lft_pos (by omega)]
    simp
    omega
end Go.Am
-- Err_sz
namespace Go.Am
open Go.Proofs
set_option maxHeartbeats 4000000
set_option maxRecDepth 100000
-- 207 loop.example/g00485/laws.szErrS
def k_laws_szErrS : K :=
 .seq (
  .reg none [⟨(some 4), none, .asn (.c (.int .i64 (0)))⟩]) (
 .seq (
  .reg none [⟨(some 5), none, .mv (.t 1)⟩,
    ⟨(some 6), none, .mv (.t 0)⟩,
    ⟨(some 7), none, .len (.t 6)⟩,
    ⟨(some 8), none, .bin .sub (.t 5) (.t 7)⟩,
    ⟨(some 1), none, .asn (.t 8)⟩]) (
 .seq (
  .seq (
   .reg none [⟨(some 9), none, .mv (.t 1)⟩,
     ⟨(some 10), none, .bin .lss (.t 9) (.c (.int .i64 (0)))⟩]) (
  .cond (.t 10) (
   .seq (
    .reg none [⟨(some 4), none, .asn (.c (.int .i64 (-1)))⟩]) (
   .ret)) (
   .skip))) (
 .seq (
  .reg none [⟨(some 11), none, .mv (.t 1)⟩,
    ⟨(some 4), none, .asn (.t 11)⟩]) (
 .ret))))
def r_laws_szErrS : Nat × List RV := (12, [.t 4])

theorem c_laws_szErrS : cmpS PT PF PA (Tryz.prog.funcs[207]?) = some (r_laws_szErrS.1, r_laws_szErrS.2, stripK k_laws_szErrS) := by kernel_rfl

theorem wL_wErr : ∀ xs : List TErr, wL wErr xs = xs.length
  | [] => rfl
  | x :: xs => by rw [wL, wL_wErr xs, List.length_cons]; simp only [wErr]; omega
theorem h_szErrS (xs : List TErr) (left : Int) (h : lL lErr xs) (h2 : 0 ≤ left) (h3 : left < 2 ^ 40) : CallsF Tryz.prog 207 [.one (.ar false 0 3 (xs.map sErr)), aI left] (aI (lft left (wL wErr xs))) := by
  refine Prun c_laws_szErrS (by simp [r_laws_szErrS]) (by simp) ?_
  unfold k_laws_szErrS r_laws_szErrS
  have h := h.1
  rw [wL_wErr, lft]
  have hw : IntKind.i64.wrap (left - xs.length) = left - xs.length := wrapI (by omega) (by omega)
  by_cases h : left - xs.length < 0
  · simp [hw, h]
  · simp [hw, h]
end Go.Am
-- Slot_sz
namespace Go.Am
open Go.Proofs
set_option maxHeartbeats 4000000
set_option maxRecDepth 100000
-- 205 loop.example/g00485/laws.szSlotS
def k_laws_szSlotS : K :=
 .seq (
  .reg none [⟨(some 4), none, .asn (.c (.int .i64 (0)))⟩]) (
 .seq (
  .reg none [⟨(some 5), none, .mv (.t 1)⟩,
    ⟨(some 6), none, .mv (.t 0)⟩,
    ⟨(some 7), none, .len (.t 6)⟩,
    ⟨(some 8), none, .bin .sub (.t 5) (.t 7)⟩,
    ⟨(some 1), none, .asn (.t 8)⟩]) (
 .seq (
  .seq (
   .reg none [⟨(some 9), none, .mv (.t 1)⟩,
     ⟨(some 10), none, .bin .lss (.t 9) (.c (.int .i64 (0)))⟩]) (
  .cond (.t 10) (
   .seq (
    .reg none [⟨(some 4), none, .asn (.c (.int .i64 (-1)))⟩]) (
   .ret)) (
   .skip))) (
 .seq (
  .reg none [⟨(some 11), none, .mv (.t 1)⟩,
    ⟨(some 4), none, .asn (.t 11)⟩]) (
 .ret))))
def r_laws_szSlotS : Nat × List RV := (12, [.t 4])

theorem c_laws_szSlotS : cmpS PT PF PA (Tryz.prog.funcs[205]?) = some (r_laws_szSlotS.1, r_laws_szSlotS.2, stripK k_laws_szSlotS) := by kernel_rfl

theorem wL_wSlot : ∀ xs : List TSlot, wL wSlot xs = xs.length
  | [] => rfl
  | x :: xs => by rw [wL, wL_wSlot xs, List.length_cons]; simp only [wSlot]; omega
theorem h_szSlotS (xs : List TSlot) (left : Int) (h : lL lSlot xs) (h2 : 0 ≤ left) (h3 : left < 2 ^ 40) : CallsF Tryz.prog 205 [.one (.ar false 0 2 (xs.map sSlot)), aI left] (aI (lft left (wL wSlot xs))) := by
  refine Prun c_laws_szSlotS (by simp [r_laws_szSlotS]) (by simp) ?_
  unfold k_laws_szSlotS r_laws_szSlotS
  have h := h.1
  rw [wL_wSlot, lft]
  have hw : IntKind.i64.wrap (left - xs.length) = left - xs.length := wrapI (by omega) (by omega)
  by_cases h : left - xs.length < 0
  · simp [hw, h]
  · simp [hw, h]
end Go.Am
-- Node_sz1
namespace Go.Am
open Go.Proofs
set_option maxHeartbeats 4000000
set_option maxRecDepth 100000
-- 246 loop.example/g00485/laws.szNode
def k_laws_szNode : K :=
 .seq (
  .reg none [⟨(some 2), none, .box 291 5 (.t 0)⟩,
    ⟨(some 4), none, .asn (.c (.int .i64 (0)))⟩]) (
 .seq (
  .reg none [⟨(some 5), none, .fad 4 (.t 2)⟩,
    ⟨(some 6), none, .ld 1 false (.t 5)⟩,
    ⟨(some 7), none, .mv (.t 1)⟩,
    ⟨(some 8), none, .call 95 [(.t 6), (.t 7)]⟩,
    ⟨(some 1), none, .asn (.t 8)⟩]) (
 .seq (
  .seq (
   .reg none [⟨(some 9), none, .mv (.t 1)⟩,
     ⟨(some 10), none, .bin .lss (.t 9) (.c (.int .i64 (0)))⟩]) (
  .cond (.t 10) (
   .seq (
    .reg none [⟨(some 4), none, .asn (.c (.int .i64 (-1)))⟩]) (
   .ret)) (
   .skip))) (
 .seq (
  .reg none [⟨(some 11), none, .mv (.t 1)⟩,
    ⟨(some 4), none, .asn (.t 11)⟩]) (
 .ret))))
def r_laws_szNode : Nat × List RV := (12, [.t 4])

theorem c_laws_szNode : cmpS PT PF PA (Tryz.prog.funcs[246]?) = some (r_laws_szNode.1, r_laws_szNode.2, stripK k_laws_szNode) := by kernel_rfl

theorem h_szNode (a : TNode) (left : Int) (h : lNode a) (h2 : 0 ≤ left) (h3 : left < 2 ^ 40) : CallsF Tryz.prog 246 [.agg (sNode a), aI left] (aI (lft left (wNode a))) := by
  refine Prun c_laws_szNode (by simp [r_laws_szNode]) (by simp) ?_
  unfold k_laws_szNode r_laws_szNode
  simp only [lNode] at h
  simp only [wNode]
  have hl0 := h
  simp [sNode]
  refine callG_F (h_szIntS a.kids (left) hl0 (by omega) (by omega)) (by simp) ?_
  by_cases g0 : left < (wL w0 a.kids : Int)
  case pos => simp only [lft_neg g0]; simp; try rw [lft_neg (by omega)]
  simp only [lft_pos (show (wL w0 a.kids : Int) ≤ left by omega)]
  have n0 : ¬ left - (wL w0 a.kids : Int) < 0 := by omega
  simp [n0]
  try rw [lft_pos (by omega)]
  try omega
end Go.Am
-- Node_sz
namespace Go.Am
open Go.Proofs
set_option maxHeartbeats 4000000
set_option maxRecDepth 100000
-- 231 loop.example/g00485/laws.szNodeS
def k_laws_szNodeS : K :=
 .seq (
  .reg none [⟨(some 4), none, .asn (.c (.int .i64 (0)))⟩]) (
 .seq (
  .reg none [⟨(some 6), none, .mv (.t 1)⟩,
    ⟨(some 7), none, .mv (.t 0)⟩,
    ⟨(some 8), none, .len (.t 7)⟩,
    ⟨(some 9), none, .bin .sub (.t 6) (.t 8)⟩,
    ⟨(some 1), none, .asn (.t 9)⟩]) (
 .seq (
  .seq (
   .reg none [⟨(some 10), none, .mv (.t 1)⟩,
     ⟨(some 11), none, .bin .lss (.t 10) (.c (.int .i64 (0)))⟩]) (
  .cond (.t 11) (
   .seq (
    .reg none [⟨(some 4), none, .asn (.c (.int .i64 (-1)))⟩]) (
   .ret)) (
   .skip))) (
 .seq (
  .seq (
   .reg none [⟨(some 5), none, .asn (.c (.int .i64 (0)))⟩]) (
  .block 0 (
   .loop (some ([0, 1, 5], [0, 1, 5, 1000])) (
    .seq (
     .seq (
      .reg none [⟨(some 12), none, .mv (.t 5)⟩,
        ⟨(some 13), none, .mv (.t 0)⟩,
        ⟨(some 14), none, .len (.t 13)⟩,
        ⟨(some 15), none, .bin .lss (.t 12) (.t 14)⟩]) (
     .cond (.t 15) (
      .skip) (
      .exit 0))) (
    .seq (
     .block 1 (
      .seq (
       .reg none [⟨(some 18), none, .mv (.t 0)⟩,
         ⟨(some 19), none, .mv (.t 5)⟩,
         ⟨(some 20), none, .iad 5 (.t 18) (.t 19)⟩,
         ⟨(some 21), none, .ld 5 true (.t 20)⟩,
         ⟨(some 22), none, .mv (.t 1)⟩,
         ⟨(some 23), none, .call 246 [(.t 21), (.t 22)]⟩,
         ⟨(some 1), none, .asn (.t 23)⟩]) (
      .seq (
       .reg none [⟨(some 24), none, .mv (.t 1)⟩,
         ⟨(some 25), none, .bin .lss (.t 24) (.c (.int .i64 (0)))⟩]) (
      .cond (.t 25) (
       .seq (
        .reg none [⟨(some 4), none, .asn (.c (.int .i64 (-1)))⟩]) (
       .ret)) (
       .skip))))) (
    .reg none [⟨(some 16), none, .mv (.t 5)⟩,
      ⟨(some 17), none, .bin .add (.t 16) (.c (.int .i64 (1)))⟩,
      ⟨(some 5), none, .asn (.t 17)⟩])))))) (
 .seq (
  .reg none [⟨(some 26), none, .mv (.t 1)⟩,
    ⟨(some 4), none, .asn (.t 26)⟩]) (
 .ret)))))
def r_laws_szNodeS : Nat × List RV := (27, [.t 4])

theorem c_laws_szNodeS : cmpS PT PF PA (Tryz.prog.funcs[231]?) = some (r_laws_szNodeS.1, r_laws_szNodeS.2, stripK k_laws_szNodeS) := by kernel_rfl

theorem h_szNodeS (xs : List TNode) (left : Int) (hl : lL lNode xs) (h2 : 0 ≤ left) (h3 : left < 2 ^ 40) : CallsF Tryz.prog 231 [.one (.ar false 0 5 (xs.map sNode)), aI left] (aI (lft left (wL wNode xs))) := by
  refine Prun c_laws_szNodeS (by simp [r_laws_szNodeS]) (by simp) ?_
  unfold k_laws_szNodeS r_laws_szNodeS
  have hlen := hl.1
  have hlw := wL_len wNode xs
  have w1 : IntKind.i64.wrap (left - xs.length) = left - xs.length := wrapI (by omega) (by omega)
  by_cases h1 : left - (xs.length : Int) < 0
  · rw [lft_neg (by omega)]
    simp [w1, h1]
  simp [w1, h1]
  refine awp_loop (fun n σ => ∃ i : Nat, i ≤ xs.length ∧ n = xs.length - i ∧ (wL wNode (xs.take i) : Int) - i ≤ left - xs.length ∧ σ = ⟨[(0, .one (.ar false 0 5 (xs.map sNode))), (1, aI (left - xs.length - ((wL wNode (xs.take i) : Int) - i))), (5, aI i)], []⟩) (xs.length) ⟨0, by simp [wL]; omega⟩ ?_
  rintro n σ ⟨i, hi, rfl, hle, rfl⟩
  have hge := wL_len wNode (xs.take i)
  rw [List.length_take, Nat.min_eq_left hi] at hge
  by_cases h : i < xs.length
  · have hst := wL_take wNode h
    have hle2 := wL_take_le wNode xs (i + 1)
    have hlen2 := wL_len wNode (xs.drop (i + 1))
    have happ := wL_append wNode (xs.take (i + 1)) (xs.drop (i + 1))
    rw [List.take_append_drop] at happ
    rw [List.length_drop] at hlen2
    simp [h, sNode]
    refine callG_F (h_szNode xs[i] _ (hl.2 i h) (by omega) (by omega)) (by simp) ?_
    generalize hv : left - (xs.length : Int) - ((wL wNode (xs.take i) : Int) - i) = v at *
    by_cases h4 : v < (wNode xs[i] : Int)
    · simp only [lft_neg h4]
      rw [lft_neg (by omega)]
      simp
    · have e : lft v (wNode xs[i]) = v - wNode xs[i] := lft_pos (by omega)
      have n1 : ¬ v - (wNode xs[i] : Int) < 0 := by omega
      simp [e, n1]
      refine ⟨xs.length - (i + 1), by omega, i + 1, by omega, rfl, by omega, ?_⟩
      rw [wrapI (by omega) (by omega)]
      simp; omega
  · have : i = xs.length := by omega
    subst this
    rw [List.take_length] at hle
    rw [lft_pos (by omega)]
    simp
    omega
end Go.Am
-- Tree_sz1
namespace Go.Am
open Go.Proofs
set_option maxHeartbeats 4000000
set_option maxRecDepth 100000
-- 206 loop.example/g00485/laws.szTree
def k_laws_szTree : K :=
 .seq (
  .reg none [⟨(some 2), none, .box 181 1 (.t 0)⟩,
    ⟨(some 4), none, .asn (.c (.int .i64 (0)))⟩]) (
 .seq (
  .reg none [⟨(some 5), none, .fad 0 (.t 2)⟩,
    ⟨(some 6), none, .ld 1 false (.t 5)⟩,
    ⟨(some 7), none, .mv (.t 1)⟩,
    ⟨(some 8), none, .call 231 [(.t 6), (.t 7)]⟩,
    ⟨(some 1), none, .asn (.t 8)⟩]) (
 .seq (
  .seq (
   .reg none [⟨(some 9), none, .mv (.t 1)⟩,
     ⟨(some 10), none, .bin .lss (.t 9) (.c (.int .i64 (0)))⟩]) (
  .cond (.t 10) (
   .seq (
    .reg none [⟨(some 4), none, .asn (.c (.int .i64 (-1)))⟩]) (
   .ret)) (
   .skip))) (
 .seq (
  .reg none [⟨(some 11), none, .mv (.t 1)⟩,
    ⟨(some 4), none, .asn (.t 11)⟩]) (
 .ret))))
def r_laws_szTree : Nat × List RV := (12, [.t 4])

theorem c_laws_szTree : cmpS PT PF PA (Tryz.prog.funcs[206]?) = some (r_laws_szTree.1, r_laws_szTree.2, stripK k_laws_szTree) := by kernel_rfl

theorem h_szTree (a : TTree) (left : Int) (h : lTree a) (h2 : 0 ≤ left) (h3 : left < 2 ^ 40) : CallsF Tryz.prog 206 [.agg (sTree a), aI left] (aI (lft left (wTree a))) := by
  refine Prun c_laws_szTree (by simp [r_laws_szTree]) (by simp) ?_
  unfold k_laws_szTree r_laws_szTree
  simp only [lTree] at h
  simp only [wTree]
  have hl0 := h
  simp [sTree]
  refine callG_F (h_szNodeS a.nodes (left) hl0 (by omega) (by omega)) (by simp) ?_
  by_cases g0 : left < (wL wNode a.nodes : Int)
  case pos => simp only [lft_neg g0]; simp; try rw [lft_neg (by omega)]
  simp only [lft_pos (show (wL wNode a.nodes : Int) ≤ left by omega)]
  have n0 : ¬ left - (wL wNode a.nodes : Int) < 0 := by omega
  simp [n0]
  try rw [lft_pos (by omega)]
  try omega
end Go.Am
-- Run_sz1
namespace Go.Am
open Go.Proofs
set_option maxHeartbeats 4000000
set_option maxRecDepth 100000
-- 177 loop.example/g00485/laws.szRun
def k_laws_szRun : K :=
 .seq (
  .reg none [⟨(some 2), none, .box 184 7 (.t 0)⟩,
    ⟨(some 4), none, .asn (.c (.int .i64 (0)))⟩]) (
 .seq (
  .reg none [⟨(some 5), none, .fad 4 (.t 2)⟩,
    ⟨(some 6), none, .ld 1 false (.t 5)⟩,
    ⟨(some 7), none, .mv (.t 1)⟩,
    ⟨(some 8), none, .call 205 [(.t 6), (.t 7)]⟩,
    ⟨(some 1), none, .asn (.t 8)⟩]) (
 .seq (
  .seq (
   .reg none [⟨(some 9), none, .mv (.t 1)⟩,
     ⟨(some 10), none, .bin .lss (.t 9) (.c (.int .i64 (0)))⟩]) (
  .cond (.t 10) (
   .seq (
    .reg none [⟨(some 4), none, .asn (.c (.int .i64 (-1)))⟩]) (
   .ret)) (
   .skip))) (
 .seq (
  .reg none [⟨(some 11), none, .fad 5 (.t 2)⟩,
    ⟨(some 12), none, .ld 1 true (.t 11)⟩,
    ⟨(some 13), none, .mv (.t 1)⟩,
    ⟨(some 14), none, .call 206 [(.t 12), (.t 13)]⟩,
    ⟨(some 1), none, .asn (.t 14)⟩]) (
 .seq (
  .seq (
   .reg none [⟨(some 15), none, .mv (.t 1)⟩,
     ⟨(some 16), none, .bin .lss (.t 15) (.c (.int .i64 (0)))⟩]) (
  .cond (.t 16) (
   .seq (
    .reg none [⟨(some 4), none, .asn (.c (.int .i64 (-1)))⟩]) (
   .ret)) (
   .skip))) (
 .seq (
  .reg none [⟨(some 17), none, .fad 6 (.t 2)⟩,
    ⟨(some 18), none, .ld 1 false (.t 17)⟩,
    ⟨(some 19), none, .mv (.t 1)⟩,
    ⟨(some 20), none, .call 207 [(.t 18), (.t 19)]⟩,
    ⟨(some 1), none, .asn (.t 20)⟩]) (
 .seq (
  .seq (
   .reg none [⟨(some 21), none, .mv (.t 1)⟩,
     ⟨(some 22), none, .bin .lss (.t 21) (.c (.int .i64 (0)))⟩]) (
  .cond (.t 22) (
   .seq (
    .reg none [⟨(some 4), none, .asn (.c (.int .i64 (-1)))⟩]) (
   .ret)) (
   .skip))) (
 .seq (
  .reg none [⟨(some 23), none, .mv (.t 1)⟩,
    ⟨(some 4), none, .asn (.t 23)⟩]) (
 .ret))))))))
def r_laws_szRun : Nat × List RV := (24, [.t 4])

theorem c_laws_szRun : cmpS PT PF PA (Tryz.prog.funcs[177]?) = some (r_laws_szRun.1, r_laws_szRun.2, stripK k_laws_szRun) := by kernel_rfl

theorem h_szRun (a : TRun) (left : Int) (h : lRun a) (h2 : 0 ≤ left) (h3 : left < 2 ^ 40) : CallsF Tryz.prog 177 [.agg (sRun a), aI left] (aI (lft left (wRun a))) := by
  refine Prun c_laws_szRun (by simp [r_laws_szRun]) (by simp) ?_
  unfold k_laws_szRun r_laws_szRun
  simp only [lRun] at h
  simp only [wRun]
  obtain ⟨hl0, hl1, hl2⟩ := h
  simp [sRun]
  refine callG_F (h_szSlotS a.slots (left) hl0 (by omega) (by omega)) (by simp) ?_
  by_cases g0 : left < (wL wSlot a.slots : Int)
  case pos => simp only [lft_neg g0]; simp; try rw [lft_neg (by omega)]
  simp only [lft_pos (show (wL wSlot a.slots : Int) ≤ left by omega)]
  have n0 : ¬ left - (wL wSlot a.slots : Int) < 0 := by omega
  simp [n0]
  refine callG_F (h_szTree a.tree (left - (wL wSlot a.slots : Int)) hl1 (by omega) (by omega)) (by simp) ?_
  by_cases g1 : left - (wL wSlot a.slots : Int) < (wTree a.tree : Int)
  case pos => simp only [lft_neg g1]; simp; try rw [lft_neg (by omega)]
  simp only [lft_pos (show (wTree a.tree : Int) ≤ left - (wL wSlot a.slots : Int) by omega)]
  have n1 : ¬ left - (wL wSlot a.slots : Int) - (wTree a.tree : Int) < 0 := by omega
  simp [n1]
  refine callG_F (h_szErrS a.errs (left - (wL wSlot a.slots : Int) - (wTree a.tree : Int)) hl2 (by omega) (by omega)) (by simp) ?_
  by_cases g2 : left - (wL wSlot a.slots : Int) - (wTree a.tree : Int) < (wL wErr a.errs : Int)
  case pos => simp only [lft_neg g2]; simp; try rw [lft_neg (by omega)]
  simp only [lft_pos (show (wL wErr a.errs : Int) ≤ left - (wL wSlot a.slots : Int) - (wTree a.tree : Int) by omega)]
  have n2 : ¬ left - (wL wSlot a.slots : Int) - (wTree a.tree : Int) - (wL wErr a.errs : Int) < 0 := by omega
  simp [n2]
  try rw [lft_pos (by omega)]
  try omega
end Go.Am
-- Job_sz1
namespace Go.Am
open Go.Proofs
set_option maxHeartbeats 4000000
set_option maxRecDepth 100000
-- 140 loop.example/g00485/laws.szJob
def k_laws_szJob : K :=
 .seq (
  .reg none [⟨(some 2), none, .box 186 10 (.t 0)⟩,
    ⟨(some 4), none, .asn (.c (.int .i64 (0)))⟩]) (
 .seq (
  .reg none [⟨(some 5), none, .fad 2 (.t 2)⟩,
    ⟨(some 6), none, .ld 1 false (.t 5)⟩,
    ⟨(some 7), none, .mv (.t 1)⟩,
    ⟨(some 8), none, .call 95 [(.t 6), (.t 7)]⟩,
    ⟨(some 1), none, .asn (.t 8)⟩]) (
 .seq (
  .seq (
   .reg none [⟨(some 9), none, .mv (.t 1)⟩,
     ⟨(some 10), none, .bin .lss (.t 9) (.c (.int .i64 (0)))⟩]) (
  .cond (.t 10) (
   .seq (
    .reg none [⟨(some 4), none, .asn (.c (.int .i64 (-1)))⟩]) (
   .ret)) (
   .skip))) (
 .seq (
  .reg none [⟨(some 11), none, .fad 3 (.t 2)⟩,
    ⟨(some 12), none, .ld 7 true (.t 11)⟩,
    ⟨(some 13), none, .mv (.t 1)⟩,
    ⟨(some 14), none, .call 177 [(.t 12), (.t 13)]⟩,
    ⟨(some 1), none, .asn (.t 14)⟩]) (
 .seq (
  .seq (
   .reg none [⟨(some 15), none, .mv (.t 1)⟩,
     ⟨(some 16), none, .bin .lss (.t 15) (.c (.int .i64 (0)))⟩]) (
  .cond (.t 16) (
   .seq (
    .reg none [⟨(some 4), none, .asn (.c (.int .i64 (-1)))⟩]) (
   .ret)) (
   .skip))) (
 .seq (
  .reg none [⟨(some 17), none, .mv (.t 1)⟩,
    ⟨(some 4), none, .asn (.t 17)⟩]) (
 .ret))))))
def r_laws_szJob : Nat × List RV := (18, [.t 4])

theorem c_laws_szJob : cmpS PT PF PA (Tryz.prog.funcs[140]?) = some (r_laws_szJob.1, r_laws_szJob.2, stripK k_laws_szJob) := by kernel_rfl

theorem h_szJob (a : TJob) (left : Int) (h : lJob a) (h2 : 0 ≤ left) (h3 : left < 2 ^ 40) : CallsF Tryz.prog 140 [.agg (sJob a), aI left] (aI (lft left (wJob a))) := by
  refine Prun c_laws_szJob (by simp [r_laws_szJob]) (by simp) ?_
  unfold k_laws_szJob r_laws_szJob
  simp only [lJob] at h
  simp only [wJob]
  obtain ⟨hl0, hl1⟩ := h
  simp [sJob]
  refine callG_F (h_szIntS a.input (left) hl0 (by omega) (by omega)) (by simp) ?_
  by_cases g0 : left < (wL w0 a.input : Int)
  case pos => simp only [lft_neg g0]; simp; try rw [lft_neg (by omega)]
  simp only [lft_pos (show (wL w0 a.input : Int) ≤ left by omega)]
  have n0 : ¬ left - (wL w0 a.input : Int) < 0 := by omega
  simp [n0]
  refine callG_F (h_szRun a.run (left - (wL w0 a.input : Int)) hl1 (by omega) (by omega)) (by simp) ?_
  by_cases g1 : left - (wL w0 a.input : Int) < (wRun a.run : Int)
  case pos => simp only [lft_neg g1]; simp; try rw [lft_neg (by omega)]
  simp only [lft_pos (show (wRun a.run : Int) ≤ left - (wL w0 a.input : Int) by omega)]
  have n1 : ¬ left - (wL w0 a.input : Int) - (wRun a.run : Int) < 0 := by omega
  simp [n1]
  try rw [lft_pos (by omega)]
  try omega
end Go.Am
-- Job_sz
namespace Go.Am
open Go.Proofs
set_option maxHeartbeats 4000000
set_option maxRecDepth 100000
-- 110 loop.example/g00485/laws.szJobS
def k_laws_szJobS : K :=
 .seq (
  .reg none [⟨(some 4), none, .asn (.c (.int .i64 (0)))⟩]) (
 .seq (
  .reg none [⟨(some 6), none, .mv (.t 1)⟩,
    ⟨(some 7), none, .mv (.t 0)⟩,
    ⟨(some 8), none, .len (.t 7)⟩,
    ⟨(some 9), none, .bin .sub (.t 6) (.t 8)⟩,
    ⟨(some 1), none, .asn (.t 9)⟩]) (
 .seq (
  .seq (
   .reg none [⟨(some 10), none, .mv (.t 1)⟩,
     ⟨(some 11), none, .bin .lss (.t 10) (.c (.int .i64 (0)))⟩]) (
  .cond (.t 11) (
   .seq (
    .reg none [⟨(some 4), none, .asn (.c (.int .i64 (-1)))⟩]) (
   .ret)) (
   .skip))) (
 .seq (
  .seq (
   .reg none [⟨(some 5), none, .asn (.c (.int .i64 (0)))⟩]) (
  .block 0 (
   .loop (some ([0, 1, 5], [0, 1, 5, 1000])) (
    .seq (
     .seq (
      .reg none [⟨(some 12), none, .mv (.t 5)⟩,
        ⟨(some 13), none, .mv (.t 0)⟩,
        ⟨(some 14), none, .len (.t 13)⟩,
        ⟨(some 15), none, .bin .lss (.t 12) (.t 14)⟩]) (
     .cond (.t 15) (
      .skip) (
      .exit 0))) (
    .seq (
     .block 1 (
      .seq (
       .reg none [⟨(some 18), none, .mv (.t 0)⟩,
         ⟨(some 19), none, .mv (.t 5)⟩,
         ⟨(some 20), none, .iad 10 (.t 18) (.t 19)⟩,
         ⟨(some 21), none, .ld 10 true (.t 20)⟩,
         ⟨(some 22), none, .mv (.t 1)⟩,
         ⟨(some 23), none, .call 140 [(.t 21), (.t 22)]⟩,
         ⟨(some 1), none, .asn (.t 23)⟩]) (
      .seq (
       .reg none [⟨(some 24), none, .mv (.t 1)⟩,
         ⟨(some 25), none, .bin .lss (.t 24) (.c (.int .i64 (0)))⟩]) (
      .cond (.t 25) (
       .seq (
        .reg none [⟨(some 4), none, .asn (.c (.int .i64 (-1)))⟩]) (
       .ret)) (
       .skip))))) (
    .reg none [⟨(some 16), none, .mv (.t 5)⟩,
      ⟨(some 17), none, .bin .add (.t 16) (.c (.int .i64 (1)))⟩,
      ⟨(some 5), none, .asn (.t 17)⟩])))))) (
 .seq (
  .reg none [⟨(some 26), none, .mv (.t 1)⟩,
    ⟨(some 4), none, .asn (.t 26)⟩]) (
 .ret)))))
def r_laws_szJobS : Nat × List RV := (27, [.t 4])

theorem c_laws_szJobS : cmpS PT PF PA (Tryz.prog.funcs[110]?) = some (r_laws_szJobS.1, r_laws_szJobS.2, stripK k_laws_szJobS) := by kernel_rfl

theorem h_szJobS (xs : List TJob) (left : Int) (hl : lL lJob xs) (h2 : 0 ≤ left) (h3 : left < 2 ^ 40) : CallsF Tryz.prog 110 [.one (.ar false 0 10 (xs.map sJob)), aI left] (aI (lft left (wL wJob xs))) := by
  refine Prun c_laws_szJobS (by simp [r_laws_szJobS]) (by simp) ?_
  unfold k_laws_szJobS r_laws_szJobS
  have hlen := hl.1
  have hlw := wL_len wJob xs
  have w1 : IntKind.i64.wrap (left - xs.length) = left - xs.length := wrapI (by omega) (by omega)
  by_cases h1 : left - (xs.length : Int) < 0
  · rw [lft_neg (by omega)]
    simp [w1, h1]
  simp [w1, h1]
  refine awp_loop (fun n σ => ∃ i : Nat, i ≤ xs.length ∧ n = xs.length - i ∧ (wL wJob (xs.take i) : Int) - i ≤ left - xs.length ∧ σ = ⟨[(0, .one (.ar false 0 10 (xs.map sJob))), (1, aI (left - xs.length - ((wL wJob (xs.take i) : Int) - i))), (5, aI i)], []⟩) (xs.length) ⟨0, by simp [wL]; omega⟩ ?_
  rintro n σ ⟨i, hi, rfl, hle, rfl⟩
  have hge := wL_len wJob (xs.take i)
  rw [List.length_take, Nat.min_eq_left hi] at hge
  by_cases h : i < xs.length
  · have hst := wL_take wJob h
    have hle2 := wL_take_le wJob xs (i + 1)
    have hlen2 := wL_len wJob (xs.drop (i + 1))
    have happ := wL_append wJob (xs.take (i + 1)) (xs.drop (i + 1))
    rw [List.take_append_drop] at happ
    rw [List.length_drop] at hlen2
    simp [h, sJob]
    refine callG_F (h_szJob xs[i] _ (hl.2 i h) (by omega) (by omega)) (by simp) ?_
    generalize hv : left - (xs.length : Int) - ((wL wJob (xs.take i) : Int) - i) = v at *
    by_cases h4 : v < (wJob xs[i] : Int)
    · simp only [lft_neg h4]
      rw [lft_neg (by omega)]
      simp
    · have e : lft v (wJob xs[i]) = v - wJob xs[i] := lft_pos (by omega)
      have n1 : ¬ v - (wJob xs[i] : Int) < 0 := by omega
      simp [e, n1]
      refine ⟨xs.length - (i + 1), by omega, i + 1, by omega, rfl, by omega, ?_⟩
      rw [wrapI (by omega) (by omega)]
      simp; omega
  · have : i = xs.length := by omega
    subst this
    rw [List.take_length] at hle
    rw [lft_pos (by omega)]
    simp
    omega
end Go.Am
-- Outcome_sz1
namespace Go.Am
open Go.Proofs
set_option maxHeartbeats 4000000
set_option maxRecDepth 100000
-- 141 loop.example/g00485/laws.szOutcome
def k_laws_szOutcome : K :=
 .seq (
  .reg none [⟨(some 2), none, .box 188 3 (.t 0)⟩,
    ⟨(some 4), none, .asn (.c (.int .i64 (0)))⟩]) (
 .seq (
  .reg none [⟨(some 5), none, .mv (.t 1)⟩,
    ⟨(some 6), none, .fad 2 (.t 2)⟩,
    ⟨(some 7), none, .ld 1 false (.t 6)⟩,
    ⟨(some 8), none, .lns (.t 7)⟩,
    ⟨(some 9), none, .bin .sub (.t 5) (.t 8)⟩,
    ⟨(some 1), none, .asn (.t 9)⟩]) (
 .seq (
  .seq (
   .reg none [⟨(some 10), none, .mv (.t 1)⟩,
     ⟨(some 11), none, .bin .lss (.t 10) (.c (.int .i64 (0)))⟩]) (
  .cond (.t 11) (
   .seq (
    .reg none [⟨(some 4), none, .asn (.c (.int .i64 (-1)))⟩]) (
   .ret)) (
   .skip))) (
 .seq (
  .reg none [⟨(some 12), none, .mv (.t 1)⟩,
    ⟨(some 4), none, .asn (.t 12)⟩]) (
 .ret))))
def r_laws_szOutcome : Nat × List RV := (13, [.t 4])

theorem c_laws_szOutcome : cmpS PT PF PA (Tryz.prog.funcs[141]?) = some (r_laws_szOutcome.1, r_laws_szOutcome.2, stripK k_laws_szOutcome) := by kernel_rfl

theorem h_szOutcome (a : TOutcome) (left : Int) (h : lOutcome a) (h2 : 0 ≤ left) (h3 : left < 2 ^ 40) : CallsF Tryz.prog 141 [.agg (sOutcome a), aI left] (aI (lft left (wOutcome a))) := by
  refine Prun c_laws_szOutcome (by simp [r_laws_szOutcome]) (by simp) ?_
  unfold k_laws_szOutcome r_laws_szOutcome
  simp only [lOutcome] at h
  simp only [wOutcome]
  have hl0 := h
  simp [sOutcome]
  have ww0 : IntKind.i64.wrap (left - (a.text.size : Int)) = left - a.text.size := wrapI (by omega) (by omega)
  by_cases n0 : left - (a.text.size : Int) < 0
  case pos => simp [ww0, n0]; try rw [lft_neg (by omega)]
  simp [ww0, n0]
  try rw [lft_pos (by omega)]
  try omega
end Go.Am
-- Outcome_sz
namespace Go.Am
open Go.Proofs
set_option maxHeartbeats 4000000
set_option maxRecDepth 100000
-- 111 loop.example/g00485/laws.szOutcomeS
def k_laws_szOutcomeS : K :=
 .seq (
  .reg none [⟨(some 4), none, .asn (.c (.int .i64 (0)))⟩]) (
 .seq (
  .reg none [⟨(some 6), none, .mv (.t 1)⟩,
    ⟨(some 7), none, .mv (.t 0)⟩,
    ⟨(some 8), none, .len (.t 7)⟩,
    ⟨(some 9), none, .bin .sub (.t 6) (.t 8)⟩,
    ⟨(some 1), none, .asn (.t 9)⟩]) (
 .seq (
  .seq (
   .reg none [⟨(some 10), none, .mv (.t 1)⟩,
     ⟨(some 11), none, .bin .lss (.t 10) (.c (.int .i64 (0)))⟩]) (
  .cond (.t 11) (
   .seq (
    .reg none [⟨(some 4), none, .asn (.c (.int .i64 (-1)))⟩]) (
   .ret)) (
   .skip))) (
 .seq (
  .seq (
   .reg none [⟨(some 5), none, .asn (.c (.int .i64 (0)))⟩]) (
  .block 0 (
   .loop (some ([0, 1, 5], [0, 1, 5, 1000])) (
    .seq (
     .seq (
      .reg none [⟨(some 12), none, .mv (.t 5)⟩,
        ⟨(some 13), none, .mv (.t 0)⟩,
        ⟨(some 14), none, .len (.t 13)⟩,
        ⟨(some 15), none, .bin .lss (.t 12) (.t 14)⟩]) (
     .cond (.t 15) (
      .skip) (
      .exit 0))) (
    .seq (
     .block 1 (
      .seq (
       .reg none [⟨(some 18), none, .mv (.t 0)⟩,
         ⟨(some 19), none, .mv (.t 5)⟩,
         ⟨(some 20), none, .iad 3 (.t 18) (.t 19)⟩,
         ⟨(some 21), none, .ld 3 true (.t 20)⟩,
         ⟨(some 22), none, .mv (.t 1)⟩,
         ⟨(some 23), none, .call 141 [(.t 21), (.t 22)]⟩,
         ⟨(some 1), none, .asn (.t 23)⟩]) (
      .seq (
       .reg none [⟨(some 24), none, .mv (.t 1)⟩,
         ⟨(some 25), none, .bin .lss (.t 24) (.c (.int .i64 (0)))⟩]) (
      .cond (.t 25) (
       .seq (
        .reg none [⟨(some 4), none, .asn (.c (.int .i64 (-1)))⟩]) (
       .ret)) (
       .skip))))) (
    .reg none [⟨(some 16), none, .mv (.t 5)⟩,
      ⟨(some 17), none, .bin .add (.t 16) (.c (.int .i64 (1)))⟩,
      ⟨(some 5), none, .asn (.t 17)⟩])))))) (
 .seq (
  .reg none [⟨(some 26), none, .mv (.t 1)⟩,
    ⟨(some 4), none, .asn (.t 26)⟩]) (
 .ret)))))
def r_laws_szOutcomeS : Nat × List RV := (27, [.t 4])

theorem c_laws_szOutcomeS : cmpS PT PF PA (Tryz.prog.funcs[111]?) = some (r_laws_szOutcomeS.1, r_laws_szOutcomeS.2, stripK k_laws_szOutcomeS) := by kernel_rfl

theorem h_szOutcomeS (xs : List TOutcome) (left : Int) (hl : lL lOutcome xs) (h2 : 0 ≤ left) (h3 : left < 2 ^ 40) : CallsF Tryz.prog 111 [.one (.ar false 0 3 (xs.map sOutcome)), aI left] (aI (lft left (wL wOutcome xs))) := by
  refine Prun c_laws_szOutcomeS (by simp [r_laws_szOutcomeS]) (by simp) ?_
  unfold k_laws_szOutcomeS r_laws_szOutcomeS
  have hlen := hl.1
  have hlw := wL_len wOutcome xs
  have w1 : IntKind.i64.wrap (left - xs.length) = left - xs.length := wrapI (by omega) (by omega)
  by_cases h1 : left - (xs.length : Int) < 0
  · rw [lft_neg (by omega)]
    simp [w1, h1]
  simp [w1, h1]
  refine awp_loop (fun n σ => ∃ i : Nat, i ≤ xs.length ∧ n = xs.length - i ∧ (wL wOutcome (xs.take i) : Int) - i ≤ left - xs.length ∧ σ = ⟨[(0, .one (.ar false 0 3 (xs.map sOutcome))), (1, aI (left - xs.length - ((wL wOutcome (xs.take i) : Int) - i))), (5, aI i)], []⟩) (xs.length) ⟨0, by simp [wL]; omega⟩ ?_
  rintro n σ ⟨i, hi, rfl, hle, rfl⟩
  have hge := wL_len wOutcome (xs.take i)
  rw [List.length_take, Nat.min_eq_left hi] at hge
  by_cases h : i < xs.length
  · have hst := wL_take wOutcome h
    have hle2 := wL_take_le wOutcome xs (i + 1)
    have hlen2 := wL_len wOutcome (xs.drop (i + 1))
    have happ := wL_append wOutcome (xs.take (i + 1)) (xs.drop (i + 1))
    rw [List.take_append_drop] at happ
    rw [List.length_drop] at hlen2
    simp [h, sOutcome]
    refine callG_F (h_szOutcome xs[i] _ (hl.2 i h) (by omega) (by omega)) (by simp) ?_
    generalize hv : left - (xs.length : Int) - ((wL wOutcome (xs.take i) : Int) - i) = v at *
    by_cases h4 : v < (wOutcome xs[i] : Int)
    · simp only [lft_neg h4]
      rw [lft_neg (by omega)]
      simp
    · have e : lft v (wOutcome xs[i]) = v - wOutcome xs[i] := lft_pos (by omega)
      have n1 : ¬ v - (wOutcome xs[i] : Int) < 0 := by omega
      simp [e, n1]
      refine ⟨xs.length - (i + 1), by omega, i + 1, by omega, rfl, by omega, ?_⟩
      rw [wrapI (by omega) (by omega)]
      simp; omega
  · have : i = xs.length := by omega
    subst this
    rw [List.take_length] at hle
    rw [lft_pos (by omega)]
    simp
    omega
end Go.Am
-- Tenant_sz1
namespace Go.Am
open Go.Proofs
set_option maxHeartbeats 4000000
set_option maxRecDepth 100000
-- 71 loop.example/g00485/laws.szTenant
def k_laws_szTenant : K :=
 .seq (
  .reg none [⟨(some 2), none, .box 115 10 (.t 0)⟩,
    ⟨(some 4), none, .asn (.c (.int .i64 (0)))⟩]) (
 .seq (
  .reg none [⟨(some 5), none, .fad 8 (.t 2)⟩,
    ⟨(some 6), none, .ld 1 false (.t 5)⟩,
    ⟨(some 7), none, .mv (.t 1)⟩,
    ⟨(some 8), none, .call 110 [(.t 6), (.t 7)]⟩,
    ⟨(some 1), none, .asn (.t 8)⟩]) (
 .seq (
  .seq (
   .reg none [⟨(some 9), none, .mv (.t 1)⟩,
     ⟨(some 10), none, .bin .lss (.t 9) (.c (.int .i64 (0)))⟩]) (
  .cond (.t 10) (
   .seq (
    .reg none [⟨(some 4), none, .asn (.c (.int .i64 (-1)))⟩]) (
   .ret)) (
   .skip))) (
 .seq (
  .reg none [⟨(some 11), none, .fad 9 (.t 2)⟩,
    ⟨(some 12), none, .ld 1 false (.t 11)⟩,
    ⟨(some 13), none, .mv (.t 1)⟩,
    ⟨(some 14), none, .call 111 [(.t 12), (.t 13)]⟩,
    ⟨(some 1), none, .asn (.t 14)⟩]) (
 .seq (
  .seq (
   .reg none [⟨(some 15), none, .mv (.t 1)⟩,
     ⟨(some 16), none, .bin .lss (.t 15) (.c (.int .i64 (0)))⟩]) (
  .cond (.t 16) (
   .seq (
    .reg none [⟨(some 4), none, .asn (.c (.int .i64 (-1)))⟩]) (
   .ret)) (
   .skip))) (
 .seq (
  .reg none [⟨(some 17), none, .mv (.t 1)⟩,
    ⟨(some 4), none, .asn (.t 17)⟩]) (
 .ret))))))
def r_laws_szTenant : Nat × List RV := (18, [.t 4])

theorem c_laws_szTenant : cmpS PT PF PA (Tryz.prog.funcs[71]?) = some (r_laws_szTenant.1, r_laws_szTenant.2, stripK k_laws_szTenant) := by kernel_rfl

theorem h_szTenant (a : TTenant) (left : Int) (h : lTenant a) (h2 : 0 ≤ left) (h3 : left < 2 ^ 40) : CallsF Tryz.prog 71 [.agg (sTenant a), aI left] (aI (lft left (wTenant a))) := by
  refine Prun c_laws_szTenant (by simp [r_laws_szTenant]) (by simp) ?_
  unfold k_laws_szTenant r_laws_szTenant
  simp only [lTenant] at h
  simp only [wTenant]
  obtain ⟨hl0, hl1⟩ := h
  simp [sTenant]
  refine callG_F (h_szJobS a.queue (left) hl0 (by omega) (by omega)) (by simp) ?_
  by_cases g0 : left < (wL wJob a.queue : Int)
  case pos => simp only [lft_neg g0]; simp; try rw [lft_neg (by omega)]
  simp only [lft_pos (show (wL wJob a.queue : Int) ≤ left by omega)]
  have n0 : ¬ left - (wL wJob a.queue : Int) < 0 := by omega
  simp [n0]
  refine callG_F (h_szOutcomeS a.out (left - (wL wJob a.queue : Int)) hl1 (by omega) (by omega)) (by simp) ?_
  by_cases g1 : left - (wL wJob a.queue : Int) < (wL wOutcome a.out : Int)
  case pos => simp only [lft_neg g1]; simp; try rw [lft_neg (by omega)]
  simp only [lft_pos (show (wL wOutcome a.out : Int) ≤ left - (wL wJob a.queue : Int) by omega)]
  have n1 : ¬ left - (wL wJob a.queue : Int) - (wL wOutcome a.out : Int) < 0 := by omega
  simp [n1]
  try rw [lft_pos (by omega)]
  try omega
end Go.Am
-- Tenant_sz
namespace Go.Am
open Go.Proofs
set_option maxHeartbeats 4000000
set_option maxRecDepth 100000
-- 33 loop.example/g00485/laws.szTenantS
def k_laws_szTenantS : K :=
 .seq (
  .reg none [⟨(some 4), none, .asn (.c (.int .i64 (0)))⟩]) (
 .seq (
  .reg none [⟨(some 6), none, .mv (.t 1)⟩,
    ⟨(some 7), none, .mv (.t 0)⟩,
    ⟨(some 8), none, .len (.t 7)⟩,
    ⟨(some 9), none, .bin .sub (.t 6) (.t 8)⟩,
    ⟨(some 1), none, .asn (.t 9)⟩]) (
 .seq (
  .seq (
   .reg none [⟨(some 10), none, .mv (.t 1)⟩,
     ⟨(some 11), none, .bin .lss (.t 10) (.c (.int .i64 (0)))⟩]) (
  .cond (.t 11) (
   .seq (
    .reg none [⟨(some 4), none, .asn (.c (.int .i64 (-1)))⟩]) (
   .ret)) (
   .skip))) (
 .seq (
  .seq (
   .reg none [⟨(some 5), none, .asn (.c (.int .i64 (0)))⟩]) (
  .block 0 (
   .loop (some ([0, 1, 5], [0, 1, 5, 1000])) (
    .seq (
     .seq (
      .reg none [⟨(some 12), none, .mv (.t 5)⟩,
        ⟨(some 13), none, .mv (.t 0)⟩,
        ⟨(some 14), none, .len (.t 13)⟩,
        ⟨(some 15), none, .bin .lss (.t 12) (.t 14)⟩]) (
     .cond (.t 15) (
      .skip) (
      .exit 0))) (
    .seq (
     .block 1 (
      .seq (
       .reg none [⟨(some 18), none, .mv (.t 0)⟩,
         ⟨(some 19), none, .mv (.t 5)⟩,
         ⟨(some 20), none, .iad 10 (.t 18) (.t 19)⟩,
         ⟨(some 21), none, .ld 10 true (.t 20)⟩,
         ⟨(some 22), none, .mv (.t 1)⟩,
         ⟨(some 23), none, .call 71 [(.t 21), (.t 22)]⟩,
         ⟨(some 1), none, .asn (.t 23)⟩]) (
      .seq (
       .reg none [⟨(some 24), none, .mv (.t 1)⟩,
         ⟨(some 25), none, .bin .lss (.t 24) (.c (.int .i64 (0)))⟩]) (
      .cond (.t 25) (
       .seq (
        .reg none [⟨(some 4), none, .asn (.c (.int .i64 (-1)))⟩]) (
       .ret)) (
       .skip))))) (
    .reg none [⟨(some 16), none, .mv (.t 5)⟩,
      ⟨(some 17), none, .bin .add (.t 16) (.c (.int .i64 (1)))⟩,
      ⟨(some 5), none, .asn (.t 17)⟩])))))) (
 .seq (
  .reg none [⟨(some 26), none, .mv (.t 1)⟩,
    ⟨(some 4), none, .asn (.t 26)⟩]) (
 .ret)))))
def r_laws_szTenantS : Nat × List RV := (27, [.t 4])

theorem c_laws_szTenantS : cmpS PT PF PA (Tryz.prog.funcs[33]?) = some (r_laws_szTenantS.1, r_laws_szTenantS.2, stripK k_laws_szTenantS) := by kernel_rfl

theorem h_szTenantS (xs : List TTenant) (left : Int) (hl : lL lTenant xs) (h2 : 0 ≤ left) (h3 : left < 2 ^ 40) : CallsF Tryz.prog 33 [.one (.ar false 0 10 (xs.map sTenant)), aI left] (aI (lft left (wL wTenant xs))) := by
  refine Prun c_laws_szTenantS (by simp [r_laws_szTenantS]) (by simp) ?_
  unfold k_laws_szTenantS r_laws_szTenantS
  have hlen := hl.1
  have hlw := wL_len wTenant xs
  have w1 : IntKind.i64.wrap (left - xs.length) = left - xs.length := wrapI (by omega) (by omega)
  by_cases h1 : left - (xs.length : Int) < 0
  · rw [lft_neg (by omega)]
    simp [w1, h1]
  simp [w1, h1]
  refine awp_loop (fun n σ => ∃ i : Nat, i ≤ xs.length ∧ n = xs.length - i ∧ (wL wTenant (xs.take i) : Int) - i ≤ left - xs.length ∧ σ = ⟨[(0, .one (.ar false 0 10 (xs.map sTenant))), (1, aI (left - xs.length - ((wL wTenant (xs.take i) : Int) - i))), (5, aI i)], []⟩) (xs.length) ⟨0, by simp [wL]; omega⟩ ?_
  rintro n σ ⟨i, hi, rfl, hle, rfl⟩
  have hge := wL_len wTenant (xs.take i)
  rw [List.length_take, Nat.min_eq_left hi] at hge
  by_cases h : i < xs.length
  · have hst := wL_take wTenant h
    have hle2 := wL_take_le wTenant xs (i + 1)
    have hlen2 := wL_len wTenant (xs.drop (i + 1))
    have happ := wL_append wTenant (xs.take (i + 1)) (xs.drop (i + 1))
    rw [List.take_append_drop] at happ
    rw [List.length_drop] at hlen2
    simp [h, sTenant]
    refine callG_F (h_szTenant xs[i] _ (hl.2 i h) (by omega) (by omega)) (by simp) ?_
    generalize hv : left - (xs.length : Int) - ((wL wTenant (xs.take i) : Int) - i) = v at *
    by_cases h4 : v < (wTenant xs[i] : Int)
    · simp only [lft_neg h4]
      rw [lft_neg (by omega)]
      simp
    · have e : lft v (wTenant xs[i]) = v - wTenant xs[i] := lft_pos (by omega)
      have n1 : ¬ v - (wTenant xs[i] : Int) < 0 := by omega
      simp [e, n1]
      refine ⟨xs.length - (i + 1), by omega, i + 1, by omega, rfl, by omega, ?_⟩
      rw [wrapI (by omega) (by omega)]
      simp; omega
  · have : i = xs.length := by omega
    subst this
    rw [List.take_length] at hle
    rw [lft_pos (by omega)]
    simp
    omega
end Go.Am
-- House_sz1
namespace Go.Am
open Go.Proofs
set_option maxHeartbeats 4000000
set_option maxRecDepth 100000
-- 6 loop.example/g00485/laws.szHouse
def k_laws_szHouse : K :=
 .seq (
  .reg none [⟨(some 2), none, .box 26 5 (.t 0)⟩,
    ⟨(some 4), none, .asn (.c (.int .i64 (0)))⟩]) (
 .seq (
  .reg none [⟨(some 5), none, .fad 2 (.t 2)⟩,
    ⟨(some 6), none, .ld 1 false (.t 5)⟩,
    ⟨(some 7), none, .mv (.t 1)⟩,
    ⟨(some 8), none, .call 31 [(.t 6), (.t 7)]⟩,
    ⟨(some 1), none, .asn (.t 8)⟩]) (
 .seq (
  .seq (
   .reg none [⟨(some 9), none, .mv (.t 1)⟩,
     ⟨(some 10), none, .bin .lss (.t 9) (.c (.int .i64 (0)))⟩]) (
  .cond (.t 10) (
   .seq (
    .reg none [⟨(some 4), none, .asn (.c (.int .i64 (-1)))⟩]) (
   .ret)) (
   .skip))) (
 .seq (
  .reg none [⟨(some 11), none, .fad 3 (.t 2)⟩,
    ⟨(some 12), none, .ld 1 false (.t 11)⟩,
    ⟨(some 13), none, .mv (.t 1)⟩,
    ⟨(some 14), none, .call 32 [(.t 12), (.t 13)]⟩,
    ⟨(some 1), none, .asn (.t 14)⟩]) (
 .seq (
  .seq (
   .reg none [⟨(some 15), none, .mv (.t 1)⟩,
     ⟨(some 16), none, .bin .lss (.t 15) (.c (.int .i64 (0)))⟩]) (
  .cond (.t 16) (
   .seq (
    .reg none [⟨(some 4), none, .asn (.c (.int .i64 (-1)))⟩]) (
   .ret)) (
   .skip))) (
 .seq (
  .reg none [⟨(some 17), none, .fad 4 (.t 2)⟩,
    ⟨(some 18), none, .ld 1 false (.t 17)⟩,
    ⟨(some 19), none, .mv (.t 1)⟩,
    ⟨(some 20), none, .call 33 [(.t 18), (.t 19)]⟩,
    ⟨(some 1), none, .asn (.t 20)⟩]) (
 .seq (
  .seq (
   .reg none [⟨(some 21), none, .mv (.t 1)⟩,
     ⟨(some 22), none, .bin .lss (.t 21) (.c (.int .i64 (0)))⟩]) (
  .cond (.t 22) (
   .seq (
    .reg none [⟨(some 4), none, .asn (.c (.int .i64 (-1)))⟩]) (
   .ret)) (
   .skip))) (
 .seq (
  .reg none [⟨(some 23), none, .mv (.t 1)⟩,
    ⟨(some 4), none, .asn (.t 23)⟩]) (
 .ret))))))))
def r_laws_szHouse : Nat × List RV := (24, [.t 4])

theorem c_laws_szHouse : cmpS PT PF PA (Tryz.prog.funcs[6]?) = some (r_laws_szHouse.1, r_laws_szHouse.2, stripK k_laws_szHouse) := by kernel_rfl

theorem h_szHouse (a : THouse) (left : Int) (h : lHouse a) (h2 : 0 ≤ left) (h3 : left < 2 ^ 40) : CallsF Tryz.prog 6 [.agg (sHouse a), aI left] (aI (lft left (wHouse a))) := by
  refine Prun c_laws_szHouse (by simp [r_laws_szHouse]) (by simp) ?_
  unfold k_laws_szHouse r_laws_szHouse
  simp only [lHouse] at h
  simp only [wHouse]
  obtain ⟨hl0, hl1, hl2⟩ := h
  simp [sHouse]
  refine callG_F (h_szGramS a.grams (left) hl0 (by omega) (by omega)) (by simp) ?_
  by_cases g0 : left < (wL wGram a.grams : Int)
  case pos => simp only [lft_neg g0]; simp; try rw [lft_neg (by omega)]
  simp only [lft_pos (show (wL wGram a.grams : Int) ≤ left by omega)]
  have n0 : ¬ left - (wL wGram a.grams : Int) < 0 := by omega
  simp [n0]
  refine callG_F (h_szStoreS a.stores (left - (wL wGram a.grams : Int)) hl1 (by omega) (by omega)) (by simp) ?_
  by_cases g1 : left - (wL wGram a.grams : Int) < (wL wStore a.stores : Int)
  case pos => simp only [lft_neg g1]; simp; try rw [lft_neg (by omega)]
  simp only [lft_pos (show (wL wStore a.stores : Int) ≤ left - (wL wGram a.grams : Int) by omega)]
  have n1 : ¬ left - (wL wGram a.grams : Int) - (wL wStore a.stores : Int) < 0 := by omega
  simp [n1]
  refine callG_F (h_szTenantS a.tenants (left - (wL wGram a.grams : Int) - (wL wStore a.stores : Int)) hl2 (by omega) (by omega)) (by simp) ?_
  by_cases g2 : left - (wL wGram a.grams : Int) - (wL wStore a.stores : Int) < (wL wTenant a.tenants : Int)
  case pos => simp only [lft_neg g2]; simp; try rw [lft_neg (by omega)]
  simp only [lft_pos (show (wL wTenant a.tenants : Int) ≤ left - (wL wGram a.grams : Int) - (wL wStore a.stores : Int) by omega)]
  have n2 : ¬ left - (wL wGram a.grams : Int) - (wL wStore a.stores : Int) - (wL wTenant a.tenants : Int) < 0 := by omega
  simp [n2]
  try rw [lft_pos (by omega)]
  try omega
end Go.Am
-- IntSS_to
namespace Go.Am
open Go.Proofs
set_option maxHeartbeats 4000000
set_option maxRecDepth 100000
-- 90 loop.example/g00485/laws.toIntSS
def k_laws_toIntSS : K :=
 .seq (
  .reg none [⟨(some 2), none, .asn (.c (.ar true 39 1 []))⟩]) (
 .seq (
  .reg none [⟨(some 5), none, .mv (.t 0)⟩,
    ⟨(some 6), none, .len (.t 5)⟩,
    ⟨(some 7), none, .mks 39 1 24 [(.ar true 3 1 [])] (.t 6) (.t 6)⟩,
    ⟨(some 3), none, .asn (.t 7)⟩]) (
 .seq (
  .seq (
   .reg none [⟨(some 4), none, .asn (.c (.int .i64 (0)))⟩]) (
  .block 0 (
   .loop (some ([0, 3, 4], [0, 3, 4, 1000])) (
    .seq (
     .seq (
      .reg none [⟨(some 8), none, .mv (.t 4)⟩,
        ⟨(some 9), none, .mv (.t 0)⟩,
        ⟨(some 10), none, .len (.t 9)⟩,
        ⟨(some 11), none, .bin .lss (.t 8) (.t 10)⟩]) (
     .cond (.t 11) (
      .skip) (
      .exit 0))) (
    .seq (
     .block 1 (
      .reg none [⟨(some 14), none, .mv (.t 3)⟩,
        ⟨(some 15), none, .mv (.t 4)⟩,
        ⟨(some 16), none, .mv (.t 0)⟩,
        ⟨(some 17), none, .mv (.t 4)⟩,
        ⟨(some 18), none, .iad 1 (.t 16) (.t 17)⟩,
        ⟨(some 19), none, .ld 1 false (.t 18)⟩,
        ⟨(some 20), none, .call 14 [(.t 19)]⟩,
        ⟨(some 21), none, .iad 1 (.t 14) (.t 15)⟩,
        ⟨none, none, .st 1 false (.t 21) (.t 20)⟩])) (
    .reg none [⟨(some 12), none, .mv (.t 4)⟩,
      ⟨(some 13), none, .bin .add (.t 12) (.c (.int .i64 (1)))⟩,
      ⟨(some 4), none, .asn (.t 13)⟩])))))) (
 .seq (
  .reg none [⟨(some 22), none, .mv (.t 3)⟩,
    ⟨(some 2), none, .asn (.t 22)⟩]) (
 .ret))))
def r_laws_toIntSS : Nat × List RV := (23, [.t 2])

theorem c_laws_toIntSS : cmpS PT PF PA (Tryz.prog.funcs[90]?) = some (r_laws_toIntSS.1, r_laws_toIntSS.2, stripK k_laws_toIntSS) := by kernel_rfl

theorem h_toIntSS (xs : List (List Int)) (hx : wL (wL w0) xs < 2 ^ 31) : CallsF Tryz.prog 90 [.one (.ar false 0 1 (xs.map sIS))] (.one (.ar true 39 1 (xs.map rIS))) := by
  refine Prun c_laws_toIntSS (by simp [r_laws_toIntSS]) (by simp) ?_
  unfold k_laws_toIntSS r_laws_toIntSS
  have hlen := wL_len (wL w0) xs
  have hc : ((xs.length : Int) ≤ 4294967296) := by omega
  simp [hc]
  refine awp_loop (fun n σ => ∃ i : Nat, i ≤ xs.length ∧ n = xs.length - i ∧ σ = ⟨[(0, .one (.ar false 0 1 (xs.map sIS))), (3, .one (.vw 39 1 3 [] 0 xs.length)), (4, aI i)], [(3, ⟨39, 1, part rIS zIS xs i⟩)]⟩) (xs.length) ⟨0, by simp [part_zero, zIS]⟩ ?_
  rintro n σ ⟨i, hi, rfl, rfl⟩
  by_cases h : i < xs.length
  · have hw := wL_get (wL w0) xs i h
    have := part_set (r := rIS) (z := zIS) h
    simp [h, sIS]
    refine callG_F (h_toIntS xs[i] (by omega)) (by simp) ?_
    simp [h, part_get h, rIS, zIS]
    refine ⟨xs.length - (i + 1), by omega, i + 1, by omega, rfl, ?_⟩
    rw [wrapI (by omega) (by omega)]
    simp only [rIS, zIS] at this
    simp [rIS, zIS, this]
  · have : i = xs.length := by omega
    subst this
    simp [part_all]
end Go.Am
-- IntSSS_to
namespace Go.Am
open Go.Proofs
set_option maxHeartbeats 4000000
set_option maxRecDepth 100000
-- 51 loop.example/g00485/laws.toIntSSS
def k_laws_toIntSSS : K :=
 .seq (
  .reg none [⟨(some 2), none, .asn (.c (.ar true 116 1 []))⟩]) (
 .seq (
  .reg none [⟨(some 5), none, .mv (.t 0)⟩,
    ⟨(some 6), none, .len (.t 5)⟩,
    ⟨(some 7), none, .mks 116 1 24 [(.ar true 39 1 [])] (.t 6) (.t 6)⟩,
    ⟨(some 3), none, .asn (.t 7)⟩]) (
 .seq (
  .seq (
   .reg none [⟨(some 4), none, .asn (.c (.int .i64 (0)))⟩]) (
  .block 0 (
   .loop (some ([0, 3, 4], [0, 3, 4, 1000])) (
    .seq (
     .seq (
      .reg none [⟨(some 8), none, .mv (.t 4)⟩,
        ⟨(some 9), none, .mv (.t 0)⟩,
        ⟨(some 10), none, .len (.t 9)⟩,
        ⟨(some 11), none, .bin .lss (.t 8) (.t 10)⟩]) (
     .cond (.t 11) (
      .skip) (
      .exit 0))) (
    .seq (
     .block 1 (
      .reg none [⟨(some 14), none, .mv (.t 3)⟩,
        ⟨(some 15), none, .mv (.t 4)⟩,
        ⟨(some 16), none, .mv (.t 0)⟩,
        ⟨(some 17), none, .mv (.t 4)⟩,
        ⟨(some 18), none, .iad 1 (.t 16) (.t 17)⟩,
        ⟨(some 19), none, .ld 1 false (.t 18)⟩,
        ⟨(some 20), none, .call 90 [(.t 19)]⟩,
        ⟨(some 21), none, .iad 1 (.t 14) (.t 15)⟩,
        ⟨none, none, .st 1 false (.t 21) (.t 20)⟩])) (
    .reg none [⟨(some 12), none, .mv (.t 4)⟩,
      ⟨(some 13), none, .bin .add (.t 12) (.c (.int .i64 (1)))⟩,
      ⟨(some 4), none, .asn (.t 13)⟩])))))) (
 .seq (
  .reg none [⟨(some 22), none, .mv (.t 3)⟩,
    ⟨(some 2), none, .asn (.t 22)⟩]) (
 .ret))))
def r_laws_toIntSSS : Nat × List RV := (23, [.t 2])

theorem c_laws_toIntSSS : cmpS PT PF PA (Tryz.prog.funcs[51]?) = some (r_laws_toIntSSS.1, r_laws_toIntSSS.2, stripK k_laws_toIntSSS) := by kernel_rfl

theorem h_toIntSSS (xs : List (List (List Int))) (hx : wL (wL (wL w0)) xs < 2 ^ 31) : CallsF Tryz.prog 51 [.one (.ar false 0 1 (xs.map sISS))] (.one (.ar true 116 1 (xs.map rISS))) := by
  refine Prun c_laws_toIntSSS (by simp [r_laws_toIntSSS]) (by simp) ?_
  unfold k_laws_toIntSSS r_laws_toIntSSS
  have hlen := wL_len (wL (wL w0)) xs
  have hc : ((xs.length : Int) ≤ 4294967296) := by omega
  simp [hc]
  refine awp_loop (fun n σ => ∃ i : Nat, i ≤ xs.length ∧ n = xs.length - i ∧ σ = ⟨[(0, .one (.ar false 0 1 (xs.map sISS))), (3, .one (.vw 116 1 3 [] 0 xs.length)), (4, aI i)], [(3, ⟨116, 1, part rISS zISS xs i⟩)]⟩) (xs.length) ⟨0, by simp [part_zero, zISS]⟩ ?_
  rintro n σ ⟨i, hi, rfl, rfl⟩
  by_cases h : i < xs.length
  · have hw := wL_get (wL (wL w0)) xs i h
    have := part_set (r := rISS) (z := zISS) h
    simp [h, sISS]
    refine callG_F (h_toIntSS xs[i] (by omega)) (by simp) ?_
    simp [h, part_get h, rISS, zISS]
    refine ⟨xs.length - (i + 1), by omega, i + 1, by omega, rfl, ?_⟩
    rw [wrapI (by omega) (by omega)]
    simp only [rISS, zISS] at this
    simp [rISS, zISS, this]
  · have : i = xs.length := by omega
    subst this
    simp [part_all]
end Go.Am
-- Gram_to1
namespace Go.Am
open Go.Proofs
set_option maxHeartbeats 4000000
set_option maxRecDepth 100000
-- 13 loop.example/g00485/laws.toGram
def k_laws_toGram : K :=
 .seq (
  .reg none [⟨(some 1), none, .box 38 1 (.t 0)⟩,
    ⟨(some 2), none, .alc 42 1 [(.ar true 116 1 [])]⟩]) (
 .seq (
  .reg none [⟨(some 3), none, .alc 42 1 [(.ar true 116 1 [])]⟩]) (
 .seq (
  .reg none [⟨(some 4), none, .fad 0 (.t 1)⟩,
    ⟨(some 5), none, .ld 1 false (.t 4)⟩,
    ⟨(some 6), none, .call 51 [(.t 5)]⟩,
    ⟨(some 7), none, .fad 0 (.t 3)⟩,
    ⟨none, none, .st 1 false (.t 7) (.t 6)⟩]) (
 .seq (
  .reg none [⟨(some 8), none, .ld 1 true (.t 3)⟩,
    ⟨none, none, .st 1 false (.t 2) (.t 8)⟩]) (
 .ret))))
def r_laws_toGram : Nat × List RV := (9, [.c 2 1 true])

theorem c_laws_toGram : cmpS PT PF PA (Tryz.prog.funcs[13]?) = some (r_laws_toGram.1, r_laws_toGram.2, stripK k_laws_toGram) := by kernel_rfl

theorem h_toGram (a : TGram) (ha : wGram a < 2 ^ 31) : CallsF Tryz.prog 13 [.agg (sGram a)] (.agg (rGram a)) := by
  refine Prun c_laws_toGram (by simp [r_laws_toGram]) (by simp) ?_
  unfold k_laws_toGram r_laws_toGram
  simp only [wGram] at ha
  simp [sGram]
  refine callG_F (h_toIntSSS a.parts (by omega)) (by simp) ?_
  simp [rGram]
end Go.Am
-- Gram_to
namespace Go.Am
open Go.Proofs
set_option maxHeartbeats 4000000
set_option maxRecDepth 100000
-- 37 loop.example/g00485/laws.toGramS
def k_laws_toGramS : K :=
 .seq (
  .reg none [⟨(some 2), none, .asn (.c (.ar true 42 1 []))⟩]) (
 .seq (
  .reg none [⟨(some 5), none, .mv (.t 0)⟩,
    ⟨(some 6), none, .len (.t 5)⟩,
    ⟨(some 7), none, .mks 42 1 24 [(.ar true 116 1 [])] (.t 6) (.t 6)⟩,
    ⟨(some 3), none, .asn (.t 7)⟩]) (
 .seq (
  .seq (
   .reg none [⟨(some 4), none, .asn (.c (.int .i64 (0)))⟩]) (
  .block 0 (
   .loop (some ([0, 3, 4], [0, 3, 4, 1000])) (
    .seq (
     .seq (
      .reg none [⟨(some 8), none, .mv (.t 4)⟩,
        ⟨(some 9), none, .mv (.t 0)⟩,
        ⟨(some 10), none, .len (.t 9)⟩,
        ⟨(some 11), none, .bin .lss (.t 8) (.t 10)⟩]) (
     .cond (.t 11) (
      .skip) (
      .exit 0))) (
    .seq (
     .block 1 (
      .reg none [⟨(some 14), none, .mv (.t 3)⟩,
        ⟨(some 15), none, .mv (.t 4)⟩,
        ⟨(some 16), none, .mv (.t 0)⟩,
        ⟨(some 17), none, .mv (.t 4)⟩,
        ⟨(some 18), none, .iad 1 (.t 16) (.t 17)⟩,
        ⟨(some 19), none, .ld 1 true (.t 18)⟩,
        ⟨(some 20), none, .call 13 [(.t 19)]⟩,
        ⟨(some 21), none, .iad 1 (.t 14) (.t 15)⟩,
        ⟨none, none, .st 1 false (.t 21) (.t 20)⟩])) (
    .reg none [⟨(some 12), none, .mv (.t 4)⟩,
      ⟨(some 13), none, .bin .add (.t 12) (.c (.int .i64 (1)))⟩,
      ⟨(some 4), none, .asn (.t 13)⟩])))))) (
 .seq (
  .reg none [⟨(some 22), none, .mv (.t 3)⟩,
    ⟨(some 2), none, .asn (.t 22)⟩]) (
 .ret))))
def r_laws_toGramS : Nat × List RV := (23, [.t 2])

theorem c_laws_toGramS : cmpS PT PF PA (Tryz.prog.funcs[37]?) = some (r_laws_toGramS.1, r_laws_toGramS.2, stripK k_laws_toGramS) := by kernel_rfl

theorem h_toGramS (xs : List TGram) (hx : wL wGram xs < 2 ^ 31) : CallsF Tryz.prog 37 [.one (.ar false 0 1 (xs.map sGram))] (.one (.ar true 42 1 (xs.map rGram))) := by
  refine Prun c_laws_toGramS (by simp [r_laws_toGramS]) (by simp) ?_
  unfold k_laws_toGramS r_laws_toGramS
  have hlen := wL_len wGram xs
  have hc : ((xs.length : Int) ≤ 4294967296) := by omega
  simp [hc]
  refine awp_loop (fun n σ => ∃ i : Nat, i ≤ xs.length ∧ n = xs.length - i ∧ σ = ⟨[(0, .one (.ar false 0 1 (xs.map sGram))), (3, .one (.vw 42 1 3 [] 0 xs.length)), (4, aI i)], [(3, ⟨42, 1, part rGram zGram xs i⟩)]⟩) (xs.length) ⟨0, by simp [part_zero, zGram]⟩ ?_
  rintro n σ ⟨i, hi, rfl, rfl⟩
  by_cases h : i < xs.length
  · have hw := wL_get wGram xs i h
    have := part_set (r := rGram) (z := zGram) h
    simp [h, sGram]
    refine callG_F (h_toGram xs[i] (by omega)) (by simp) ?_
    simp [h, part_get h, rGram, zGram]
    refine ⟨xs.length - (i + 1), by omega, i + 1, by omega, rfl, ?_⟩
    rw [wrapI (by omega) (by omega)]
    simp only [rGram, zGram] at this
    simp [rGram, zGram, this]
  · have : i = xs.length := by omega
    subst this
    simp [part_all]
end Go.Am
-- Conf_to1
namespace Go.Am
open Go.Proofs
set_option maxHeartbeats 4000000
set_option maxRecDepth 100000
-- 60 loop.example/g00485/laws.toConf
def k_laws_toConf : K :=
 .seq (
  .reg none [⟨(some 1), none, .box 99 2 (.t 0)⟩,
    ⟨(some 2), none, .alc 103 2 [(.int .i64 (0)), (.ar true 3 1 [])]⟩]) (
 .seq (
  .reg none [⟨(some 3), none, .alc 103 2 [(.int .i64 (0)), (.ar true 3 1 [])]⟩]) (
 .seq (
  .reg none [⟨(some 4), none, .fad 0 (.t 1)⟩,
    ⟨(some 5), none, .ld 1 false (.t 4)⟩,
    ⟨(some 6), none, .fad 0 (.t 3)⟩,
    ⟨none, none, .st 1 false (.t 6) (.t 5)⟩]) (
 .seq (
  .reg none [⟨(some 7), none, .fad 1 (.t 1)⟩,
    ⟨(some 8), none, .ld 1 false (.t 7)⟩,
    ⟨(some 9), none, .call 14 [(.t 8)]⟩,
    ⟨(some 10), none, .fad 1 (.t 3)⟩,
    ⟨none, none, .st 1 false (.t 10) (.t 9)⟩]) (
 .seq (
  .reg none [⟨(some 11), none, .ld 2 true (.t 3)⟩,
    ⟨none, none, .st 2 false (.t 2) (.t 11)⟩]) (
 .ret)))))
def r_laws_toConf : Nat × List RV := (12, [.c 2 2 true])

theorem c_laws_toConf : cmpS PT PF PA (Tryz.prog.funcs[60]?) = some (r_laws_toConf.1, r_laws_toConf.2, stripK k_laws_toConf) := by kernel_rfl

theorem h_toConf (a : TConf) (ha : wConf a < 2 ^ 31) : CallsF Tryz.prog 60 [.agg (sConf a)] (.agg (rConf a)) := by
  refine Prun c_laws_toConf (by simp [r_laws_toConf]) (by simp) ?_
  unfold k_laws_toConf r_laws_toConf
  simp only [wConf] at ha
  simp [sConf]
  refine callG_F (h_toIntS a.row (by omega)) (by simp) ?_
  simp [rConf]
end Go.Am
-- Conf_to
namespace Go.Am
open Go.Proofs
set_option maxHeartbeats 4000000
set_option maxRecDepth 100000
-- 22 loop.example/g00485/laws.toConfS
def k_laws_toConfS : K :=
 .seq (
  .reg none [⟨(some 2), none, .asn (.c (.ar true 103 2 []))⟩]) (
 .seq (
  .reg none [⟨(some 5), none, .mv (.t 0)⟩,
    ⟨(some 6), none, .len (.t 5)⟩,
    ⟨(some 7), none, .mks 103 2 32 [(.int .i64 (0)), (.ar true 3 1 [])] (.t 6) (.t 6)⟩,
    ⟨(some 3), none, .asn (.t 7)⟩]) (
 .seq (
  .seq (
   .reg none [⟨(some 4), none, .asn (.c (.int .i64 (0)))⟩]) (
  .block 0 (
   .loop (some ([0, 3, 4], [0, 3, 4, 1000])) (
    .seq (
     .seq (
      .reg none [⟨(some 8), none, .mv (.t 4)⟩,
        ⟨(some 9), none, .mv (.t 0)⟩,
        ⟨(some 10), none, .len (.t 9)⟩,
        ⟨(some 11), none, .bin .lss (.t 8) (.t 10)⟩]) (
     .cond (.t 11) (
      .skip) (
      .exit 0))) (
    .seq (
     .block 1 (
      .reg none [⟨(some 14), none, .mv (.t 3)⟩,
        ⟨(some 15), none, .mv (.t 4)⟩,
        ⟨(some 16), none, .mv (.t 0)⟩,
        ⟨(some 17), none, .mv (.t 4)⟩,
        ⟨(some 18), none, .iad 2 (.t 16) (.t 17)⟩,
        ⟨(some 19), none, .ld 2 true (.t 18)⟩,
        ⟨(some 20), none, .call 60 [(.t 19)]⟩,
        ⟨(some 21), none, .iad 2 (.t 14) (.t 15)⟩,
        ⟨none, none, .st 2 false (.t 21) (.t 20)⟩])) (
    .reg none [⟨(some 12), none, .mv (.t 4)⟩,
      ⟨(some 13), none, .bin .add (.t 12) (.c (.int .i64 (1)))⟩,
      ⟨(some 4), none, .asn (.t 13)⟩])))))) (
 .seq (
  .reg none [⟨(some 22), none, .mv (.t 3)⟩,
    ⟨(some 2), none, .asn (.t 22)⟩]) (
 .ret))))
def r_laws_toConfS : Nat × List RV := (23, [.t 2])

theorem c_laws_toConfS : cmpS PT PF PA (Tryz.prog.funcs[22]?) = some (r_laws_toConfS.1, r_laws_toConfS.2, stripK k_laws_toConfS) := by kernel_rfl

theorem h_toConfS (xs : List TConf) (hx : wL wConf xs < 2 ^ 31) : CallsF Tryz.prog 22 [.one (.ar false 0 2 (xs.map sConf))] (.one (.ar true 103 2 (xs.map rConf))) := by
  refine Prun c_laws_toConfS (by simp [r_laws_toConfS]) (by simp) ?_
  unfold k_laws_toConfS r_laws_toConfS
  have hlen := wL_len wConf xs
  have hc : ((xs.length : Int) ≤ 4294967296) := by omega
  simp [hc]
  refine awp_loop (fun n σ => ∃ i : Nat, i ≤ xs.length ∧ n = xs.length - i ∧ σ = ⟨[(0, .one (.ar false 0 2 (xs.map sConf))), (3, .one (.vw 103 2 3 [] 0 xs.length)), (4, aI i)], [(3, ⟨103, 2, part rConf zConf xs i⟩)]⟩) (xs.length) ⟨0, by simp [part_zero, zConf]⟩ ?_
  rintro n σ ⟨i, hi, rfl, rfl⟩
  by_cases h : i < xs.length
  · have hw := wL_get wConf xs i h
    have := part_set (r := rConf) (z := zConf) h
    simp [h, sConf]
    refine callG_F (h_toConf xs[i] (by omega)) (by simp) ?_
    simp [h, part_get h, rConf, zConf]
    refine ⟨xs.length - (i + 1), by omega, i + 1, by omega, rfl, ?_⟩
    rw [wrapI (by omega) (by omega)]
    simp only [rConf, zConf] at this
    simp [rConf, zConf, this]
  · have : i = xs.length := by omega
    subst this
    simp [part_all]
end Go.Am
-- Line_to1
namespace Go.Am
open Go.Proofs
set_option maxHeartbeats 4000000
set_option maxRecDepth 100000
-- 101 loop.example/g00485/laws.toLine
def k_laws_toLine : K :=
 .seq (
  .reg none [⟨(some 1), none, .box 139 3 (.t 0)⟩,
    ⟨(some 2), none, .alc 118 3 [(.ar true 103 2 []), (.int .i64 (0)), (.ar true 103 2 [])]⟩]) (
 .seq (
  .reg none [⟨(some 3), none, .alc 118 3 [(.ar true 103 2 []), (.int .i64 (0)), (.ar true 103 2 [])]⟩]) (
 .seq (
  .reg none [⟨(some 4), none, .fad 0 (.t 1)⟩,
    ⟨(some 5), none, .ld 1 false (.t 4)⟩,
    ⟨(some 6), none, .call 22 [(.t 5)]⟩,
    ⟨(some 7), none, .fad 0 (.t 3)⟩,
    ⟨none, none, .st 1 false (.t 7) (.t 6)⟩]) (
 .seq (
  .reg none [⟨(some 8), none, .fad 1 (.t 1)⟩,
    ⟨(some 9), none, .ld 1 false (.t 8)⟩,
    ⟨(some 10), none, .fad 1 (.t 3)⟩,
    ⟨none, none, .st 1 false (.t 10) (.t 9)⟩]) (
 .seq (
  .reg none [⟨(some 11), none, .fad 2 (.t 1)⟩,
    ⟨(some 12), none, .ld 1 false (.t 11)⟩,
    ⟨(some 13), none, .call 22 [(.t 12)]⟩,
    ⟨(some 14), none, .fad 2 (.t 3)⟩,
    ⟨none, none, .st 1 false (.t 14) (.t 13)⟩]) (
 .seq (
  .reg none [⟨(some 15), none, .ld 3 true (.t 3)⟩,
    ⟨none, none, .st 3 false (.t 2) (.t 15)⟩]) (
 .ret))))))
def r_laws_toLine : Nat × List RV := (16, [.c 2 3 true])

theorem c_laws_toLine : cmpS PT PF PA (Tryz.prog.funcs[101]?) = some (r_laws_toLine.1, r_laws_toLine.2, stripK k_laws_toLine) := by kernel_rfl

theorem h_toLine (a : TLine) (ha : wLine a < 2 ^ 31) : CallsF Tryz.prog 101 [.agg (sLine a)] (.agg (rLine a)) := by
  refine Prun c_laws_toLine (by simp [r_laws_toLine]) (by simp) ?_
  unfold k_laws_toLine r_laws_toLine
  simp only [wLine] at ha
  simp [sLine]
  refine callG_F (h_toConfS a.frm (by omega)) (by simp) ?_
  simp
  refine callG_F (h_toConfS a.too (by omega)) (by simp) ?_
  simp [rLine]
end Go.Am
-- Line_to
namespace Go.Am
open Go.Proofs
set_option maxHeartbeats 4000000
set_option maxRecDepth 100000
-- 59 loop.example/g00485/laws.toLineS
def k_laws_toLineS : K :=
 .seq (
  .reg none [⟨(some 2), none, .asn (.c (.ar true 118 3 []))⟩]) (
 .seq (
  .reg none [⟨(some 5), none, .mv (.t 0)⟩,
    ⟨(some 6), none, .len (.t 5)⟩,
    ⟨(some 7), none, .mks 118 3 56 [(.ar true 103 2 []), (.int .i64 (0)), (.ar true 103 2 [])] (.t 6) (.t 6)⟩,
    ⟨(some 3), none, .asn (.t 7)⟩]) (
 .seq (
  .seq (
   .reg none [⟨(some 4), none, .asn (.c (.int .i64 (0)))⟩]) (
  .block 0 (
   .loop (some ([0, 3, 4], [0, 3, 4, 1000])) (
    .seq (
     .seq (
      .reg none [⟨(some 8), none, .mv (.t 4)⟩,
        ⟨(some 9), none, .mv (.t 0)⟩,
        ⟨(some 10), none, .len (.t 9)⟩,
        ⟨(some 11), none, .bin .lss (.t 8) (.t 10)⟩]) (
     .cond (.t 11) (
      .skip) (
      .exit 0))) (
    .seq (
     .block 1 (
      .reg none [⟨(some 14), none, .mv (.t 3)⟩,
        ⟨(some 15), none, .mv (.t 4)⟩,
        ⟨(some 16), none, .mv (.t 0)⟩,
        ⟨(some 17), none, .mv (.t 4)⟩,
        ⟨(some 18), none, .iad 3 (.t 16) (.t 17)⟩,
        ⟨(some 19), none, .ld 3 true (.t 18)⟩,
        ⟨(some 20), none, .call 101 [(.t 19)]⟩,
        ⟨(some 21), none, .iad 3 (.t 14) (.t 15)⟩,
        ⟨none, none, .st 3 false (.t 21) (.t 20)⟩])) (
    .reg none [⟨(some 12), none, .mv (.t 4)⟩,
      ⟨(some 13), none, .bin .add (.t 12) (.c (.int .i64 (1)))⟩,
      ⟨(some 4), none, .asn (.t 13)⟩])))))) (
 .seq (
  .reg none [⟨(some 22), none, .mv (.t 3)⟩,
    ⟨(some 2), none, .asn (.t 22)⟩]) (
 .ret))))
def r_laws_toLineS : Nat × List RV := (23, [.t 2])

theorem c_laws_toLineS : cmpS PT PF PA (Tryz.prog.funcs[59]?) = some (r_laws_toLineS.1, r_laws_toLineS.2, stripK k_laws_toLineS) := by kernel_rfl

theorem h_toLineS (xs : List TLine) (hx : wL wLine xs < 2 ^ 31) : CallsF Tryz.prog 59 [.one (.ar false 0 3 (xs.map sLine))] (.one (.ar true 118 3 (xs.map rLine))) := by
  refine Prun c_laws_toLineS (by simp [r_laws_toLineS]) (by simp) ?_
  unfold k_laws_toLineS r_laws_toLineS
  have hlen := wL_len wLine xs
  have hc : ((xs.length : Int) ≤ 4294967296) := by omega
  simp [hc]
  refine awp_loop (fun n σ => ∃ i : Nat, i ≤ xs.length ∧ n = xs.length - i ∧ σ = ⟨[(0, .one (.ar false 0 3 (xs.map sLine))), (3, .one (.vw 118 3 3 [] 0 xs.length)), (4, aI i)], [(3, ⟨118, 3, part rLine zLine xs i⟩)]⟩) (xs.length) ⟨0, by simp [part_zero, zLine]⟩ ?_
  rintro n σ ⟨i, hi, rfl, rfl⟩
  by_cases h : i < xs.length
  · have hw := wL_get wLine xs i h
    have := part_set (r := rLine) (z := zLine) h
    simp [h, sLine]
    refine callG_F (h_toLine xs[i] (by omega)) (by simp) ?_
    simp [h, part_get h, rLine, zLine]
    refine ⟨xs.length - (i + 1), by omega, i + 1, by omega, rfl, ?_⟩
    rw [wrapI (by omega) (by omega)]
    simp only [rLine, zLine] at this
    simp [rLine, zLine, this]
  · have : i = xs.length := by omega
    subst this
    simp [part_all]
end Go.Am
-- Store_to1
namespace Go.Am
open Go.Proofs
set_option maxHeartbeats 4000000
set_option maxRecDepth 100000
-- 21 loop.example/g00485/laws.toStore
def k_laws_toStore : K :=
 .seq (
  .reg none [⟨(some 1), none, .box 50 2 (.t 0)⟩,
    ⟨(some 2), none, .alc 57 2 [(.int .i64 (0)), (.ar true 118 3 [])]⟩]) (
 .seq (
  .reg none [⟨(some 3), none, .alc 57 2 [(.int .i64 (0)), (.ar true 118 3 [])]⟩]) (
 .seq (
  .reg none [⟨(some 4), none, .fad 0 (.t 1)⟩,
    ⟨(some 5), none, .ld 1 false (.t 4)⟩,
    ⟨(some 6), none, .fad 0 (.t 3)⟩,
    ⟨none, none, .st 1 false (.t 6) (.t 5)⟩]) (
 .seq (
  .reg none [⟨(some 7), none, .fad 1 (.t 1)⟩,
    ⟨(some 8), none, .ld 1 false (.t 7)⟩,
    ⟨(some 9), none, .call 59 [(.t 8)]⟩,
    ⟨(some 10), none, .fad 1 (.t 3)⟩,
    ⟨none, none, .st 1 false (.t 10) (.t 9)⟩]) (
 .seq (
  .reg none [⟨(some 11), none, .ld 2 true (.t 3)⟩,
    ⟨none, none, .st 2 false (.t 2) (.t 11)⟩]) (
 .ret)))))
def r_laws_toStore : Nat × List RV := (12, [.c 2 2 true])

theorem c_laws_toStore : cmpS PT PF PA (Tryz.prog.funcs[21]?) = some (r_laws_toStore.1, r_laws_toStore.2, stripK k_laws_toStore) := by kernel_rfl

theorem h_toStore (a : TStore) (ha : wStore a < 2 ^ 31) : CallsF Tryz.prog 21 [.agg (sStore a)] (.agg (rStore a)) := by
  refine Prun c_laws_toStore (by simp [r_laws_toStore]) (by simp) ?_
  unfold k_laws_toStore r_laws_toStore
  simp only [wStore] at ha
  simp [sStore]
  refine callG_F (h_toLineS a.lines (by omega)) (by simp) ?_
  simp [rStore]
end Go.Am
-- Store_to
namespace Go.Am
open Go.Proofs
set_option maxHeartbeats 4000000
set_option maxRecDepth 100000
-- 38 loop.example/g00485/laws.toStoreS
def k_laws_toStoreS : K :=
 .seq (
  .reg none [⟨(some 2), none, .asn (.c (.ar true 57 2 []))⟩]) (
 .seq (
  .reg none [⟨(some 5), none, .mv (.t 0)⟩,
    ⟨(some 6), none, .len (.t 5)⟩,
    ⟨(some 7), none, .mks 57 2 32 [(.int .i64 (0)), (.ar true 118 3 [])] (.t 6) (.t 6)⟩,
    ⟨(some 3), none, .asn (.t 7)⟩]) (
 .seq (
  .seq (
   .reg none [⟨(some 4), none, .asn (.c (.int .i64 (0)))⟩]) (
  .block 0 (
   .loop (some ([0, 3, 4], [0, 3, 4, 1000])) (
    .seq (
     .seq (
      .reg none [⟨(some 8), none, .mv (.t 4)⟩,
        ⟨(some 9), none, .mv (.t 0)⟩,
        ⟨(some 10), none, .len (.t 9)⟩,
        ⟨(some 11), none, .bin .lss (.t 8) (.t 10)⟩]) (
     .cond (.t 11) (
      .skip) (
      .exit 0))) (
    .seq (
     .block 1 (
      .reg none [⟨(some 14), none, .mv (.t 3)⟩,
        ⟨(some 15), none, .mv (.t 4)⟩,
        ⟨(some 16), none, .mv (.t 0)⟩,
        ⟨(some 17), none, .mv (.t 4)⟩,
        ⟨(some 18), none, .iad 2 (.t 16) (.t 17)⟩,
        ⟨(some 19), none, .ld 2 true (.t 18)⟩,
        ⟨(some 20), none, .call 21 [(.t 19)]⟩,
        ⟨(some 21), none, .iad 2 (.t 14) (.t 15)⟩,
        ⟨none, none, .st 2 false (.t 21) (.t 20)⟩])) (
    .reg none [⟨(some 12), none, .mv (.t 4)⟩,
      ⟨(some 13), none, .bin .add (.t 12) (.c (.int .i64 (1)))⟩,
      ⟨(some 4), none, .asn (.t 13)⟩])))))) (
 .seq (
  .reg none [⟨(some 22), none, .mv (.t 3)⟩,
    ⟨(some 2), none, .asn (.t 22)⟩]) (
 .ret))))
def r_laws_toStoreS : Nat × List RV := (23, [.t 2])

theorem c_laws_toStoreS : cmpS PT PF PA (Tryz.prog.funcs[38]?) = some (r_laws_toStoreS.1, r_laws_toStoreS.2, stripK k_laws_toStoreS) := by kernel_rfl

theorem h_toStoreS (xs : List TStore) (hx : wL wStore xs < 2 ^ 31) : CallsF Tryz.prog 38 [.one (.ar false 0 2 (xs.map sStore))] (.one (.ar true 57 2 (xs.map rStore))) := by
  refine Prun c_laws_toStoreS (by simp [r_laws_toStoreS]) (by simp) ?_
  unfold k_laws_toStoreS r_laws_toStoreS
  have hlen := wL_len wStore xs
  have hc : ((xs.length : Int) ≤ 4294967296) := by omega
  simp [hc]
  refine awp_loop (fun n σ => ∃ i : Nat, i ≤ xs.length ∧ n = xs.length - i ∧ σ = ⟨[(0, .one (.ar false 0 2 (xs.map sStore))), (3, .one (.vw 57 2 3 [] 0 xs.length)), (4, aI i)], [(3, ⟨57, 2, part rStore zStore xs i⟩)]⟩) (xs.length) ⟨0, by simp [part_zero, zStore]⟩ ?_
  rintro n σ ⟨i, hi, rfl, rfl⟩
  by_cases h : i < xs.length
  · have hw := wL_get wStore xs i h
    have := part_set (r := rStore) (z := zStore) h
    simp [h, sStore]
    refine callG_F (h_toStore xs[i] (by omega)) (by simp) ?_
    simp [h, part_get h, rStore, zStore]
    refine ⟨xs.length - (i + 1), by omega, i + 1, by omega, rfl, ?_⟩
    rw [wrapI (by omega) (by omega)]
    simp only [rStore, zStore] at this
    simp [rStore, zStore, this]
  · have : i = xs.length := by omega
    subst this
    simp [part_all]
end Go.Am
-- Err_to1
namespace Go.Am
open Go.Proofs
set_option maxHeartbeats 4000000
set_option maxRecDepth 100000
-- 234 loop.example/g00485/laws.toErr
def k_laws_toErr : K :=
 .seq (
  .reg none [⟨(some 1), none, .box 275 3 (.t 0)⟩,
    ⟨(some 2), none, .alc 157 3 [(.int .i64 (0)), (.int .i64 (0)), (.int .i64 (0))]⟩]) (
 .seq (
  .reg none [⟨(some 3), none, .alc 157 3 [(.int .i64 (0)), (.int .i64 (0)), (.int .i64 (0))]⟩]) (
 .seq (
  .reg none [⟨(some 4), none, .fad 0 (.t 1)⟩,
    ⟨(some 5), none, .ld 1 false (.t 4)⟩,
    ⟨(some 6), none, .fad 0 (.t 3)⟩,
    ⟨none, none, .st 1 false (.t 6) (.t 5)⟩]) (
 .seq (
  .reg none [⟨(some 7), none, .fad 1 (.t 1)⟩,
    ⟨(some 8), none, .ld 1 false (.t 7)⟩,
    ⟨(some 9), none, .fad 1 (.t 3)⟩,
    ⟨none, none, .st 1 false (.t 9) (.t 8)⟩]) (
 .seq (
  .reg none [⟨(some 10), none, .fad 2 (.t 1)⟩,
    ⟨(some 11), none, .ld 1 false (.t 10)⟩,
    ⟨(some 12), none, .fad 2 (.t 3)⟩,
    ⟨none, none, .st 1 false (.t 12) (.t 11)⟩]) (
 .seq (
  .reg none [⟨(some 13), none, .ld 3 true (.t 3)⟩,
    ⟨none, none, .st 3 false (.t 2) (.t 13)⟩]) (
 .ret))))))
def r_laws_toErr : Nat × List RV := (14, [.c 2 3 true])

theorem c_laws_toErr : cmpS PT PF PA (Tryz.prog.funcs[234]?) = some (r_laws_toErr.1, r_laws_toErr.2, stripK k_laws_toErr) := by kernel_rfl

theorem h_toErr (a : TErr) (ha : wErr a < 2 ^ 31) : CallsF Tryz.prog 234 [.agg (sErr a)] (.agg (rErr a)) := by
  refine Prun c_laws_toErr (by simp [r_laws_toErr]) (by simp) ?_
  unfold k_laws_toErr r_laws_toErr
  simp only [wErr] at ha
  simp [sErr, rErr]
end Go.Am
-- Err_to
namespace Go.Am
open Go.Proofs
set_option maxHeartbeats 4000000
set_option maxRecDepth 100000
-- 210 loop.example/g00485/laws.toErrS
def k_laws_toErrS : K :=
 .seq (
  .reg none [⟨(some 2), none, .asn (.c (.ar true 157 3 []))⟩]) (
 .seq (
  .reg none [⟨(some 5), none, .mv (.t 0)⟩,
    ⟨(some 6), none, .len (.t 5)⟩,
    ⟨(some 7), none, .mks 157 3 24 [(.int .i64 (0)), (.int .i64 (0)), (.int .i64 (0))] (.t 6) (.t 6)⟩,
    ⟨(some 3), none, .asn (.t 7)⟩]) (
 .seq (
  .seq (
   .reg none [⟨(some 4), none, .asn (.c (.int .i64 (0)))⟩]) (
  .block 0 (
   .loop (some ([0, 3, 4], [0, 3, 4, 1000])) (
    .seq (
     .seq (
      .reg none [⟨(some 8), none, .mv (.t 4)⟩,
        ⟨(some 9), none, .mv (.t 0)⟩,
        ⟨(some 10), none, .len (.t 9)⟩,
        ⟨(some 11), none, .bin .lss (.t 8) (.t 10)⟩]) (
     .cond (.t 11) (
      .skip) (
      .exit 0))) (
    .seq (
     .block 1 (
      .reg none [⟨(some 14), none, .mv (.t 3)⟩,
        ⟨(some 15), none, .mv (.t 4)⟩,
        ⟨(some 16), none, .mv (.t 0)⟩,
        ⟨(some 17), none, .mv (.t 4)⟩,
        ⟨(some 18), none, .iad 3 (.t 16) (.t 17)⟩,
        ⟨(some 19), none, .ld 3 true (.t 18)⟩,
        ⟨(some 20), none, .call 234 [(.t 19)]⟩,
        ⟨(some 21), none, .iad 3 (.t 14) (.t 15)⟩,
        ⟨none, none, .st 3 false (.t 21) (.t 20)⟩])) (
    .reg none [⟨(some 12), none, .mv (.t 4)⟩,
      ⟨(some 13), none, .bin .add (.t 12) (.c (.int .i64 (1)))⟩,
      ⟨(some 4), none, .asn (.t 13)⟩])))))) (
 .seq (
  .reg none [⟨(some 22), none, .mv (.t 3)⟩,
    ⟨(some 2), none, .asn (.t 22)⟩]) (
 .ret))))
def r_laws_toErrS : Nat × List RV := (23, [.t 2])

theorem c_laws_toErrS : cmpS PT PF PA (Tryz.prog.funcs[210]?) = some (r_laws_toErrS.1, r_laws_toErrS.2, stripK k_laws_toErrS) := by kernel_rfl

theorem h_toErrS (xs : List TErr) (hx : wL wErr xs < 2 ^ 31) : CallsF Tryz.prog 210 [.one (.ar false 0 3 (xs.map sErr))] (.one (.ar true 157 3 (xs.map rErr))) := by
  refine Prun c_laws_toErrS (by simp [r_laws_toErrS]) (by simp) ?_
  unfold k_laws_toErrS r_laws_toErrS
  have hlen := wL_len wErr xs
  have hc : ((xs.length : Int) ≤ 4294967296) := by omega
  simp [hc]
  refine awp_loop (fun n σ => ∃ i : Nat, i ≤ xs.length ∧ n = xs.length - i ∧ σ = ⟨[(0, .one (.ar false 0 3 (xs.map sErr))), (3, .one (.vw 157 3 3 [] 0 xs.length)), (4, aI i)], [(3, ⟨157, 3, part rErr zErr xs i⟩)]⟩) (xs.length) ⟨0, by simp [part_zero, zErr]⟩ ?_
  rintro n σ ⟨i, hi, rfl, rfl⟩
  by_cases h : i < xs.length
  · have hw := wL_get wErr xs i h
    have := part_set (r := rErr) (z := zErr) h
    simp [h, sErr]
    refine callG_F (h_toErr xs[i] (by omega)) (by simp) ?_
    simp [h, part_get h, rErr, zErr]
    refine ⟨xs.length - (i + 1), by omega, i + 1, by omega, rfl, ?_⟩
    rw [wrapI (by omega) (by omega)]
    simp only [rErr, zErr] at this
    simp [rErr, zErr, this]
  · have : i = xs.length := by omega
    subst this
    simp [part_all]
end Go.Am
-- Slot_to1
namespace Go.Am
open Go.Proofs
set_option maxHeartbeats 4000000
set_option maxRecDepth 100000
-- 232 loop.example/g00485/laws.toSlot
def k_laws_toSlot : K :=
 .seq (
  .reg none [⟨(some 1), none, .box 272 2 (.t 0)⟩,
    ⟨(some 2), none, .alc 155 2 [(.int .i64 (0)), (.int .i64 (0))]⟩]) (
 .seq (
  .reg none [⟨(some 3), none, .alc 155 2 [(.int .i64 (0)), (.int .i64 (0))]⟩]) (
 .seq (
  .reg none [⟨(some 4), none, .fad 0 (.t 1)⟩,
    ⟨(some 5), none, .ld 1 false (.t 4)⟩,
    ⟨(some 6), none, .fad 0 (.t 3)⟩,
    ⟨none, none, .st 1 false (.t 6) (.t 5)⟩]) (
 .seq (
  .reg none [⟨(some 7), none, .fad 1 (.t 1)⟩,
    ⟨(some 8), none, .ld 1 false (.t 7)⟩,
    ⟨(some 9), none, .fad 1 (.t 3)⟩,
    ⟨none, none, .st 1 false (.t 9) (.t 8)⟩]) (
 .seq (
  .reg none [⟨(some 10), none, .ld 2 true (.t 3)⟩,
    ⟨none, none, .st 2 false (.t 2) (.t 10)⟩]) (
 .ret)))))
def r_laws_toSlot : Nat × List RV := (11, [.c 2 2 true])

theorem c_laws_toSlot : cmpS PT PF PA (Tryz.prog.funcs[232]?) = some (r_laws_toSlot.1, r_laws_toSlot.2, stripK k_laws_toSlot) := by kernel_rfl

theorem h_toSlot (a : TSlot) (ha : wSlot a < 2 ^ 31) : CallsF Tryz.prog 232 [.agg (sSlot a)] (.agg (rSlot a)) := by
  refine Prun c_laws_toSlot (by simp [r_laws_toSlot]) (by simp) ?_
  unfold k_laws_toSlot r_laws_toSlot
  simp only [wSlot] at ha
  simp [sSlot, rSlot]
end Go.Am
-- Slot_to
namespace Go.Am
open Go.Proofs
set_option maxHeartbeats 4000000
set_option maxRecDepth 100000
-- 208 loop.example/g00485/laws.toSlotS
def k_laws_toSlotS : K :=
 .seq (
  .reg none [⟨(some 2), none, .asn (.c (.ar true 155 2 []))⟩]) (
 .seq (
  .reg none [⟨(some 5), none, .mv (.t 0)⟩,
    ⟨(some 6), none, .len (.t 5)⟩,
    ⟨(some 7), none, .mks 155 2 16 [(.int .i64 (0)), (.int .i64 (0))] (.t 6) (.t 6)⟩,
    ⟨(some 3), none, .asn (.t 7)⟩]) (
 .seq (
  .seq (
   .reg none [⟨(some 4), none, .asn (.c (.int .i64 (0)))⟩]) (
  .block 0 (
   .loop (some ([0, 3, 4], [0, 3, 4, 1000])) (
    .seq (
     .seq (
      .reg none [⟨(some 8), none, .mv (.t 4)⟩,
        ⟨(some 9), none, .mv (.t 0)⟩,
        ⟨(some 10), none, .len (.t 9)⟩,
        ⟨(some 11), none, .bin .lss (.t 8) (.t 10)⟩]) (
     .cond (.t 11) (
      .skip) (
      .exit 0))) (
    .seq (
     .block 1 (
      .reg none [⟨(some 14), none, .mv (.t 3)⟩,
        ⟨(some 15), none, .mv (.t 4)⟩,
        ⟨(some 16), none, .mv (.t 0)⟩,
        ⟨(some 17), none, .mv (.t 4)⟩,
        ⟨(some 18), none, .iad 2 (.t 16) (.t 17)⟩,
        ⟨(some 19), none, .ld 2 true (.t 18)⟩,
        ⟨(some 20), none, .call 232 [(.t 19)]⟩,
        ⟨(some 21), none, .iad 2 (.t 14) (.t 15)⟩,
        ⟨none, none, .st 2 false (.t 21) (.t 20)⟩])) (
    .reg none [⟨(some 12), none, .mv (.t 4)⟩,
      ⟨(some 13), none, .bin .add (.t 12) (.c (.int .i64 (1)))⟩,
      ⟨(some 4), none, .asn (.t 13)⟩])))))) (
 .seq (
  .reg none [⟨(some 22), none, .mv (.t 3)⟩,
    ⟨(some 2), none, .asn (.t 22)⟩]) (
 .ret))))
def r_laws_toSlotS : Nat × List RV := (23, [.t 2])

theorem c_laws_toSlotS : cmpS PT PF PA (Tryz.prog.funcs[208]?) = some (r_laws_toSlotS.1, r_laws_toSlotS.2, stripK k_laws_toSlotS) := by kernel_rfl

theorem h_toSlotS (xs : List TSlot) (hx : wL wSlot xs < 2 ^ 31) : CallsF Tryz.prog 208 [.one (.ar false 0 2 (xs.map sSlot))] (.one (.ar true 155 2 (xs.map rSlot))) := by
  refine Prun c_laws_toSlotS (by simp [r_laws_toSlotS]) (by simp) ?_
  unfold k_laws_toSlotS r_laws_toSlotS
  have hlen := wL_len wSlot xs
  have hc : ((xs.length : Int) ≤ 4294967296) := by omega
  simp [hc]
  refine awp_loop (fun n σ => ∃ i : Nat, i ≤ xs.length ∧ n = xs.length - i ∧ σ = ⟨[(0, .one (.ar false 0 2 (xs.map sSlot))), (3, .one (.vw 155 2 3 [] 0 xs.length)), (4, aI i)], [(3, ⟨155, 2, part rSlot zSlot xs i⟩)]⟩) (xs.length) ⟨0, by simp [part_zero, zSlot]⟩ ?_
  rintro n σ ⟨i, hi, rfl, rfl⟩
  by_cases h : i < xs.length
  · have hw := wL_get wSlot xs i h
    have := part_set (r := rSlot) (z := zSlot) h
    simp [h, sSlot]
    refine callG_F (h_toSlot xs[i] (by omega)) (by simp) ?_
    simp [h, part_get h, rSlot, zSlot]
    refine ⟨xs.length - (i + 1), by omega, i + 1, by omega, rfl, ?_⟩
    rw [wrapI (by omega) (by omega)]
    simp only [rSlot, zSlot] at this
    simp [rSlot, zSlot, this]
  · have : i = xs.length := by omega
    subst this
    simp [part_all]
end Go.Am
-- Node_to1
namespace Go.Am
open Go.Proofs
set_option maxHeartbeats 4000000
set_option maxRecDepth 100000
-- 247 loop.example/g00485/laws.toNode
def k_laws_toNode : K :=
 .seq (
  .reg none [⟨(some 1), none, .box 291 5 (.t 0)⟩,
    ⟨(some 2), none, .alc 191 5 [(.int .i64 (0)), (.int .i64 (0)), (.int .i64 (0)), (.int .i64 (0)), (.ar true 3 1 [])]⟩]) (
 .seq (
  .reg none [⟨(some 3), none, .alc 191 5 [(.int .i64 (0)), (.int .i64 (0)), (.int .i64 (0)), (.int .i64 (0)), (.ar true 3 1 [])]⟩]) (
 .seq (
  .reg none [⟨(some 4), none, .fad 0 (.t 1)⟩,
    ⟨(some 5), none, .ld 1 false (.t 4)⟩,
    ⟨(some 6), none, .fad 0 (.t 3)⟩,
    ⟨none, none, .st 1 false (.t 6) (.t 5)⟩]) (
 .seq (
  .reg none [⟨(some 7), none, .fad 1 (.t 1)⟩,
    ⟨(some 8), none, .ld 1 false (.t 7)⟩,
    ⟨(some 9), none, .fad 1 (.t 3)⟩,
    ⟨none, none, .st 1 false (.t 9) (.t 8)⟩]) (
 .seq (
  .reg none [⟨(some 10), none, .fad 2 (.t 1)⟩,
    ⟨(some 11), none, .ld 1 false (.t 10)⟩,
    ⟨(some 12), none, .fad 2 (.t 3)⟩,
    ⟨none, none, .st 1 false (.t 12) (.t 11)⟩]) (
 .seq (
  .reg none [⟨(some 13), none, .fad 3 (.t 1)⟩,
    ⟨(some 14), none, .ld 1 false (.t 13)⟩,
    ⟨(some 15), none, .fad 3 (.t 3)⟩,
    ⟨none, none, .st 1 false (.t 15) (.t 14)⟩]) (
 .seq (
  .reg none [⟨(some 16), none, .fad 4 (.t 1)⟩,
    ⟨(some 17), none, .ld 1 false (.t 16)⟩,
    ⟨(some 18), none, .call 14 [(.t 17)]⟩,
    ⟨(some 19), none, .fad 4 (.t 3)⟩,
    ⟨none, none, .st 1 false (.t 19) (.t 18)⟩]) (
 .seq (
  .reg none [⟨(some 20), none, .ld 5 true (.t 3)⟩,
    ⟨none, none, .st 5 false (.t 2) (.t 20)⟩]) (
 .ret))))))))
def r_laws_toNode : Nat × List RV := (21, [.c 2 5 true])

theorem c_laws_toNode : cmpS PT PF PA (Tryz.prog.funcs[247]?) = some (r_laws_toNode.1, r_laws_toNode.2, stripK k_laws_toNode) := by kernel_rfl

theorem h_toNode (a : TNode) (ha : wNode a < 2 ^ 31) : CallsF Tryz.prog 247 [.agg (sNode a)] (.agg (rNode a)) := by
  refine Prun c_laws_toNode (by simp [r_laws_toNode]) (by simp) ?_
  unfold k_laws_toNode r_laws_toNode
  simp only [wNode] at ha
  simp [sNode]
  refine callG_F (h_toIntS a.kids (by omega)) (by simp) ?_
  simp [rNode]
end Go.Am
-- Node_to
namespace Go.Am
open Go.Proofs
set_option maxHeartbeats 4000000
set_option maxRecDepth 100000
-- 233 loop.example/g00485/laws.toNodeS
def k_laws_toNodeS : K :=
 .seq (
  .reg none [⟨(some 2), none, .asn (.c (.ar true 191 5 []))⟩]) (
 .seq (
  .reg none [⟨(some 5), none, .mv (.t 0)⟩,
    ⟨(some 6), none, .len (.t 5)⟩,
    ⟨(some 7), none, .mks 191 5 56 [(.int .i64 (0)), (.int .i64 (0)), (.int .i64 (0)), (.int .i64 (0)), (.ar true 3 1 [])] (.t 6) (.t 6)⟩,
    ⟨(some 3), none, .asn (.t 7)⟩]) (
 .seq (
  .seq (
   .reg none [⟨(some 4), none, .asn (.c (.int .i64 (0)))⟩]) (
  .block 0 (
   .loop (some ([0, 3, 4], [0, 3, 4, 1000])) (
    .seq (
     .seq (
      .reg none [⟨(some 8), none, .mv (.t 4)⟩,
        ⟨(some 9), none, .mv (.t 0)⟩,
        ⟨(some 10), none, .len (.t 9)⟩,
        ⟨(some 11), none, .bin .lss (.t 8) (.t 10)⟩]) (
     .cond (.t 11) (
      .skip) (
      .exit 0))) (
    .seq (
     .block 1 (
      .reg none [⟨(some 14), none, .mv (.t 3)⟩,
        ⟨(some 15), none, .mv (.t 4)⟩,
        ⟨(some 16), none, .mv (.t 0)⟩,
        ⟨(some 17), none, .mv (.t 4)⟩,
        ⟨(some 18), none, .iad 5 (.t 16) (.t 17)⟩,
        ⟨(some 19), none, .ld 5 true (.t 18)⟩,
        ⟨(some 20), none, .call 247 [(.t 19)]⟩,
        ⟨(some 21), none, .iad 5 (.t 14) (.t 15)⟩,
        ⟨none, none, .st 5 false (.t 21) (.t 20)⟩])) (
    .reg none [⟨(some 12), none, .mv (.t 4)⟩,
      ⟨(some 13), none, .bin .add (.t 12) (.c (.int .i64 (1)))⟩,
      ⟨(some 4), none, .asn (.t 13)⟩])))))) (
 .seq (
  .reg none [⟨(some 22), none, .mv (.t 3)⟩,
    ⟨(some 2), none, .asn (.t 22)⟩]) (
 .ret))))
def r_laws_toNodeS : Nat × List RV := (23, [.t 2])

theorem c_laws_toNodeS : cmpS PT PF PA (Tryz.prog.funcs[233]?) = some (r_laws_toNodeS.1, r_laws_toNodeS.2, stripK k_laws_toNodeS) := by kernel_rfl

theorem h_toNodeS (xs : List TNode) (hx : wL wNode xs < 2 ^ 31) : CallsF Tryz.prog 233 [.one (.ar false 0 5 (xs.map sNode))] (.one (.ar true 191 5 (xs.map rNode))) := by
  refine Prun c_laws_toNodeS (by simp [r_laws_toNodeS]) (by simp) ?_
  unfold k_laws_toNodeS r_laws_toNodeS
  have hlen := wL_len wNode xs
  have hc : ((xs.length : Int) ≤ 4294967296) := by omega
  simp [hc]
  refine awp_loop (fun n σ => ∃ i : Nat, i ≤ xs.length ∧ n = xs.length - i ∧ σ = ⟨[(0, .one (.ar false 0 5 (xs.map sNode))), (3, .one (.vw 191 5 3 [] 0 xs.length)), (4, aI i)], [(3, ⟨191, 5, part rNode zNode xs i⟩)]⟩) (xs.length) ⟨0, by simp [part_zero, zNode]⟩ ?_
  rintro n σ ⟨i, hi, rfl, rfl⟩
  by_cases h : i < xs.length
  · have hw := wL_get wNode xs i h
    have := part_set (r := rNode) (z := zNode) h
    simp [h, sNode]
    refine callG_F (h_toNode xs[i] (by omega)) (by simp) ?_
    simp [h, part_get h, rNode, zNode]
    refine ⟨xs.length - (i + 1), by omega, i + 1, by omega, rfl, ?_⟩
    rw [wrapI (by omega) (by omega)]
    simp only [rNode, zNode] at this
    simp [rNode, zNode, this]
  · have : i = xs.length := by omega
    subst this
    simp [part_all]
end Go.Am
-- Tree_to1
namespace Go.Am
open Go.Proofs
set_option maxHeartbeats 4000000
set_option maxRecDepth 100000
-- 209 loop.example/g00485/laws.toTree
def k_laws_toTree : K :=
 .seq (
  .reg none [⟨(some 1), none, .box 181 1 (.t 0)⟩,
    ⟨(some 2), none, .alc 89 1 [(.ar true 191 5 [])]⟩]) (
 .seq (
  .reg none [⟨(some 3), none, .alc 89 1 [(.ar true 191 5 [])]⟩]) (
 .seq (
  .reg none [⟨(some 4), none, .fad 0 (.t 1)⟩,
    ⟨(some 5), none, .ld 1 false (.t 4)⟩,
    ⟨(some 6), none, .call 233 [(.t 5)]⟩,
    ⟨(some 7), none, .fad 0 (.t 3)⟩,
    ⟨none, none, .st 1 false (.t 7) (.t 6)⟩]) (
 .seq (
  .reg none [⟨(some 8), none, .ld 1 true (.t 3)⟩,
    ⟨none, none, .st 1 false (.t 2) (.t 8)⟩]) (
 .ret))))
def r_laws_toTree : Nat × List RV := (9, [.c 2 1 true])

theorem c_laws_toTree : cmpS PT PF PA (Tryz.prog.funcs[209]?) = some (r_laws_toTree.1, r_laws_toTree.2, stripK k_laws_toTree) := by kernel_rfl

theorem h_toTree (a : TTree) (ha : wTree a < 2 ^ 31) : CallsF Tryz.prog 209 [.agg (sTree a)] (.agg (rTree a)) := by
  refine Prun c_laws_toTree (by simp [r_laws_toTree]) (by simp) ?_
  unfold k_laws_toTree r_laws_toTree
  simp only [wTree] at ha
  simp [sTree]
  refine callG_F (h_toNodeS a.nodes (by omega)) (by simp) ?_
  simp [rTree]
end Go.Am
-- Run_to1
namespace Go.Am
open Go.Proofs
set_option maxHeartbeats 4000000
set_option maxRecDepth 100000
-- 179 loop.example/g00485/laws.toRun
def k_laws_toRun : K :=
 .seq (
  .reg none [⟨(some 1), none, .box 184 7 (.t 0)⟩,
    ⟨(some 2), none, .alc 92 7 [(.int .i64 (0)), (.int .i64 (0)), (.int .i64 (0)), (.int .i64 (0)), (.ar true 155 2 []), (.ar true 191 5 []), (.ar true 157 3 [])]⟩]) (
 .seq (
  .reg none [⟨(some 3), none, .alc 92 7 [(.int .i64 (0)), (.int .i64 (0)), (.int .i64 (0)), (.int .i64 (0)), (.ar true 155 2 []), (.ar true 191 5 []), (.ar true 157 3 [])]⟩]) (
 .seq (
  .reg none [⟨(some 4), none, .fad 0 (.t 1)⟩,
    ⟨(some 5), none, .ld 1 false (.t 4)⟩,
    ⟨(some 6), none, .fad 0 (.t 3)⟩,
    ⟨none, none, .st 1 false (.t 6) (.t 5)⟩]) (
 .seq (
  .reg none [⟨(some 7), none, .fad 1 (.t 1)⟩,
    ⟨(some 8), none, .ld 1 false (.t 7)⟩,
    ⟨(some 9), none, .fad 1 (.t 3)⟩,
    ⟨none, none, .st 1 false (.t 9) (.t 8)⟩]) (
 .seq (
  .reg none [⟨(some 10), none, .fad 2 (.t 1)⟩,
    ⟨(some 11), none, .ld 1 false (.t 10)⟩,
    ⟨(some 12), none, .fad 2 (.t 3)⟩,
    ⟨none, none, .st 1 false (.t 12) (.t 11)⟩]) (
 .seq (
  .reg none [⟨(some 13), none, .fad 3 (.t 1)⟩,
    ⟨(some 14), none, .ld 1 false (.t 13)⟩,
    ⟨(some 15), none, .fad 3 (.t 3)⟩,
    ⟨none, none, .st 1 false (.t 15) (.t 14)⟩]) (
 .seq (
  .reg none [⟨(some 16), none, .fad 4 (.t 1)⟩,
    ⟨(some 17), none, .ld 1 false (.t 16)⟩,
    ⟨(some 18), none, .call 208 [(.t 17)]⟩,
    ⟨(some 19), none, .fad 4 (.t 3)⟩,
    ⟨none, none, .st 1 false (.t 19) (.t 18)⟩]) (
 .seq (
  .reg none [⟨(some 20), none, .fad 5 (.t 1)⟩,
    ⟨(some 21), none, .ld 1 true (.t 20)⟩,
    ⟨(some 22), none, .call 209 [(.t 21)]⟩,
    ⟨(some 23), none, .fad 5 (.t 3)⟩,
    ⟨none, none, .st 1 false (.t 23) (.t 22)⟩]) (
 .seq (
  .reg none [⟨(some 24), none, .fad 6 (.t 1)⟩,
    ⟨(some 25), none, .ld 1 false (.t 24)⟩,
    ⟨(some 26), none, .call 210 [(.t 25)]⟩,
    ⟨(some 27), none, .fad 6 (.t 3)⟩,
    ⟨none, none, .st 1 false (.t 27) (.t 26)⟩]) (
 .seq (
  .reg none [⟨(some 28), none, .ld 7 true (.t 3)⟩,
    ⟨none, none, .st 7 false (.t 2) (.t 28)⟩]) (
 .ret))))))))))
def r_laws_toRun : Nat × List RV := (29, [.c 2 7 true])

theorem c_laws_toRun : cmpS PT PF PA (Tryz.prog.funcs[179]?) = some (r_laws_toRun.1, r_laws_toRun.2, stripK k_laws_toRun) := by kernel_rfl

theorem h_toRun (a : TRun) (ha : wRun a < 2 ^ 31) : CallsF Tryz.prog 179 [.agg (sRun a)] (.agg (rRun a)) := by
  refine Prun c_laws_toRun (by simp [r_laws_toRun]) (by simp) ?_
  unfold k_laws_toRun r_laws_toRun
  simp only [wRun] at ha
  simp [sRun]
  refine callG_F (h_toSlotS a.slots (by omega)) (by simp) ?_
  simp
  refine callG_F (h_toTree a.tree (by omega)) (by simp [rTree]) ?_
  simp [rTree]
  refine callG_F (h_toErrS a.errs (by omega)) (by simp) ?_
  simp [rRun]
end Go.Am
-- Job_to1
namespace Go.Am
open Go.Proofs
set_option maxHeartbeats 4000000
set_option maxRecDepth 100000
-- 143 loop.example/g00485/laws.toJob
def k_laws_toJob : K :=
 .seq (
  .reg none [⟨(some 1), none, .box 186 10 (.t 0)⟩,
    ⟨(some 2), none, .alc 121 10 [(.int .i64 (0)), (.int .i64 (0)), (.ar true 3 1 []), (.int .i64 (0)), (.int .i64 (0)), (.int .i64 (0)), (.int .i64 (0)), (.ar true 155 2 []), (.ar true 191 5 []), (.ar true 157 3 [])]⟩]) (
 .seq (
  .reg none [⟨(some 3), none, .alc 121 10 [(.int .i64 (0)), (.int .i64 (0)), (.ar true 3 1 []), (.int .i64 (0)), (.int .i64 (0)), (.int .i64 (0)), (.int .i64 (0)), (.ar true 155 2 []), (.ar true 191 5 []), (.ar true 157 3 [])]⟩]) (
 .seq (
  .reg none [⟨(some 4), none, .fad 0 (.t 1)⟩,
    ⟨(some 5), none, .ld 1 false (.t 4)⟩,
    ⟨(some 6), none, .fad 0 (.t 3)⟩,
    ⟨none, none, .st 1 false (.t 6) (.t 5)⟩]) (
 .seq (
  .reg none [⟨(some 7), none, .fad 1 (.t 1)⟩,
    ⟨(some 8), none, .ld 1 false (.t 7)⟩,
    ⟨(some 9), none, .fad 1 (.t 3)⟩,
    ⟨none, none, .st 1 false (.t 9) (.t 8)⟩]) (
 .seq (
  .reg none [⟨(some 10), none, .fad 2 (.t 1)⟩,
    ⟨(some 11), none, .ld 1 false (.t 10)⟩,
    ⟨(some 12), none, .call 14 [(.t 11)]⟩,
    ⟨(some 13), none, .fad 2 (.t 3)⟩,
    ⟨none, none, .st 1 false (.t 13) (.t 12)⟩]) (
 .seq (
  .reg none [⟨(some 14), none, .fad 3 (.t 1)⟩,
    ⟨(some 15), none, .ld 7 true (.t 14)⟩,
    ⟨(some 16), none, .call 179 [(.t 15)]⟩,
    ⟨(some 17), none, .fad 3 (.t 3)⟩,
    ⟨none, none, .st 7 false (.t 17) (.t 16)⟩]) (
 .seq (
  .reg none [⟨(some 18), none, .ld 10 true (.t 3)⟩,
    ⟨none, none, .st 10 false (.t 2) (.t 18)⟩]) (
 .ret)))))))
def r_laws_toJob : Nat × List RV := (19, [.c 2 10 true])

theorem c_laws_toJob : cmpS PT PF PA (Tryz.prog.funcs[143]?) = some (r_laws_toJob.1, r_laws_toJob.2, stripK k_laws_toJob) := by kernel_rfl

theorem h_toJob (a : TJob) (ha : wJob a < 2 ^ 31) : CallsF Tryz.prog 143 [.agg (sJob a)] (.agg (rJob a)) := by
  refine Prun c_laws_toJob (by simp [r_laws_toJob]) (by simp) ?_
  unfold k_laws_toJob r_laws_toJob
  simp only [wJob] at ha
  simp [sJob]
  refine callG_F (h_toIntS a.input (by omega)) (by simp) ?_
  simp
  refine callG_F (h_toRun a.run (by omega)) (by simp [rRun]) ?_
  simp [rJob, rRun]
end Go.Am
-- Job_to
namespace Go.Am
open Go.Proofs
set_option maxHeartbeats 4000000
set_option maxRecDepth 100000
-- 114 loop.example/g00485/laws.toJobS
def k_laws_toJobS : K :=
 .seq (
  .reg none [⟨(some 2), none, .asn (.c (.ar true 121 10 []))⟩]) (
 .seq (
  .reg none [⟨(some 5), none, .mv (.t 0)⟩,
    ⟨(some 6), none, .len (.t 5)⟩,
    ⟨(some 7), none, .mks 121 10 144 [(.int .i64 (0)), (.int .i64 (0)), (.ar true 3 1 []), (.int .i64 (0)), (.int .i64 (0)), (.int .i64 (0)), (.int .i64 (0)), (.ar true 155 2 []), (.ar true 191 5 []), (.ar true 157 3 [])] (.t 6) (.t 6)⟩,
    ⟨(some 3), none, .asn (.t 7)⟩]) (
 .seq (
  .seq (
   .reg none [⟨(some 4), none, .asn (.c (.int .i64 (0)))⟩]) (
  .block 0 (
   .loop (some ([0, 3, 4], [0, 3, 4, 1000])) (
    .seq (
     .seq (
      .reg none [⟨(some 8), none, .mv (.t 4)⟩,
        ⟨(some 9), none, .mv (.t 0)⟩,
        ⟨(some 10), none, .len (.t 9)⟩,
        ⟨(some 11), none, .bin .lss (.t 8) (.t 10)⟩]) (
     .cond (.t 11) (
      .skip) (
      .exit 0))) (
    .seq (
     .block 1 (
      .reg none [⟨(some 14), none, .mv (.t 3)⟩,
        ⟨(some 15), none, .mv (.t 4)⟩,
        ⟨(some 16), none, .mv (.t 0)⟩,
        ⟨(some 17), none, .mv (.t 4)⟩,
        ⟨(some 18), none, .iad 10 (.t 16) (.t 17)⟩,
        ⟨(some 19), none, .ld 10 true (.t 18)⟩,
        ⟨(some 20), none, .call 143 [(.t 19)]⟩,
        ⟨(some 21), none, .iad 10 (.t 14) (.t 15)⟩,
        ⟨none, none, .st 10 false (.t 21) (.t 20)⟩])) (
    .reg none [⟨(some 12), none, .mv (.t 4)⟩,
      ⟨(some 13), none, .bin .add (.t 12) (.c (.int .i64 (1)))⟩,
      ⟨(some 4), none, .asn (.t 13)⟩])))))) (
 .seq (
  .reg none [⟨(some 22), none, .mv (.t 3)⟩,
    ⟨(some 2), none, .asn (.t 22)⟩]) (
 .ret))))
def r_laws_toJobS : Nat × List RV := (23, [.t 2])

theorem c_laws_toJobS : cmpS PT PF PA (Tryz.prog.funcs[114]?) = some (r_laws_toJobS.1, r_laws_toJobS.2, stripK k_laws_toJobS) := by kernel_rfl

theorem h_toJobS (xs : List TJob) (hx : wL wJob xs < 2 ^ 31) : CallsF Tryz.prog 114 [.one (.ar false 0 10 (xs.map sJob))] (.one (.ar true 121 10 (xs.map rJob))) := by
  refine Prun c_laws_toJobS (by simp [r_laws_toJobS]) (by simp) ?_
  unfold k_laws_toJobS r_laws_toJobS
  have hlen := wL_len wJob xs
  have hc : ((xs.length : Int) ≤ 4294967296) := by omega
  simp [hc]
  refine awp_loop (fun n σ => ∃ i : Nat, i ≤ xs.length ∧ n = xs.length - i ∧ σ = ⟨[(0, .one (.ar false 0 10 (xs.map sJob))), (3, .one (.vw 121 10 3 [] 0 xs.length)), (4, aI i)], [(3, ⟨121, 10, part rJob zJob xs i⟩)]⟩) (xs.length) ⟨0, by simp [part_zero, zJob]⟩ ?_
  rintro n σ ⟨i, hi, rfl, rfl⟩
  by_cases h : i < xs.length
  · have hw := wL_get wJob xs i h
    have := part_set (r := rJob) (z := zJob) h
    simp [h, sJob]
    refine callG_F (h_toJob xs[i] (by omega)) (by simp) ?_
    simp [h, part_get h, rJob, zJob]
    refine ⟨xs.length - (i + 1), by omega, i + 1, by omega, rfl, ?_⟩
    rw [wrapI (by omega) (by omega)]
    simp only [rJob, zJob] at this
    simp [rJob, zJob, this]
  · have : i = xs.length := by omega
    subst this
    simp [part_all]
end Go.Am
-- Outcome_to1
namespace Go.Am
open Go.Proofs
set_option maxHeartbeats 4000000
set_option maxRecDepth 100000
-- 144 loop.example/g00485/laws.toOutcome
def k_laws_toOutcome : K :=
 .seq (
  .reg none [⟨(some 1), none, .box 188 3 (.t 0)⟩,
    ⟨(some 2), none, .alc 132 3 [(.int .i64 (0)), (.int .i64 (0)), (.str ⟨#[]⟩)]⟩]) (
 .seq (
  .reg none [⟨(some 3), none, .alc 132 3 [(.int .i64 (0)), (.int .i64 (0)), (.str ⟨#[]⟩)]⟩]) (
 .seq (
  .reg none [⟨(some 4), none, .fad 0 (.t 1)⟩,
    ⟨(some 5), none, .ld 1 false (.t 4)⟩,
    ⟨(some 6), none, .fad 0 (.t 3)⟩,
    ⟨none, none, .st 1 false (.t 6) (.t 5)⟩]) (
 .seq (
  .reg none [⟨(some 7), none, .fad 1 (.t 1)⟩,
    ⟨(some 8), none, .ld 1 false (.t 7)⟩,
    ⟨(some 9), none, .fad 1 (.t 3)⟩,
    ⟨none, none, .st 1 false (.t 9) (.t 8)⟩]) (
 .seq (
  .reg none [⟨(some 10), none, .fad 2 (.t 1)⟩,
    ⟨(some 11), none, .ld 1 false (.t 10)⟩,
    ⟨(some 12), none, .fad 2 (.t 3)⟩,
    ⟨none, none, .st 1 false (.t 12) (.t 11)⟩]) (
 .seq (
  .reg none [⟨(some 13), none, .ld 3 true (.t 3)⟩,
    ⟨none, none, .st 3 false (.t 2) (.t 13)⟩]) (
 .ret))))))
def r_laws_toOutcome : Nat × List RV := (14, [.c 2 3 true])

theorem c_laws_toOutcome : cmpS PT PF PA (Tryz.prog.funcs[144]?) = some (r_laws_toOutcome.1, r_laws_toOutcome.2, stripK k_laws_toOutcome) := by kernel_rfl

theorem h_toOutcome (a : TOutcome) (ha : wOutcome a < 2 ^ 31) : CallsF Tryz.prog 144 [.agg (sOutcome a)] (.agg (rOutcome a)) := by
  refine Prun c_laws_toOutcome (by simp [r_laws_toOutcome]) (by simp) ?_
  unfold k_laws_toOutcome r_laws_toOutcome
  simp only [wOutcome] at ha
  simp [sOutcome, rOutcome]
end Go.Am
-- Outcome_to
namespace Go.Am
open Go.Proofs
set_option maxHeartbeats 4000000
set_option maxRecDepth 100000
-- 115 loop.example/g00485/laws.toOutcomeS
def k_laws_toOutcomeS : K :=
 .seq (
  .reg none [⟨(some 2), none, .asn (.c (.ar true 132 3 []))⟩]) (
 .seq (
  .reg none [⟨(some 5), none, .mv (.t 0)⟩,
    ⟨(some 6), none, .len (.t 5)⟩,
    ⟨(some 7), none, .mks 132 3 32 [(.int .i64 (0)), (.int .i64 (0)), (.str ⟨#[]⟩)] (.t 6) (.t 6)⟩,
    ⟨(some 3), none, .asn (.t 7)⟩]) (
 .seq (
  .seq (
   .reg none [⟨(some 4), none, .asn (.c (.int .i64 (0)))⟩]) (
  .block 0 (
   .loop (some ([0, 3, 4], [0, 3, 4, 1000])) (
    .seq (
     .seq (
      .reg none [⟨(some 8), none, .mv (.t 4)⟩,
        ⟨(some 9), none, .mv (.t 0)⟩,
        ⟨(some 10), none, .len (.t 9)⟩,
        ⟨(some 11), none, .bin .lss (.t 8) (.t 10)⟩]) (
     .cond (.t 11) (
      .skip) (
      .exit 0))) (
    .seq (
     .block 1 (
      .reg none [⟨(some 14), none, .mv (.t 3)⟩,
        ⟨(some 15), none, .mv (.t 4)⟩,
        ⟨(some 16), none, .mv (.t 0)⟩,
        ⟨(some 17), none, .mv (.t 4)⟩,
        ⟨(some 18), none, .iad 3 (.t 16) (.t 17)⟩,
        ⟨(some 19), none, .ld 3 true (.t 18)⟩,
        ⟨(some 20), none, .call 144 [(.t 19)]⟩,
        ⟨(some 21), none, .iad 3 (.t 14) (.t 15)⟩,
        ⟨none, none, .st 3 false (.t 21) (.t 20)⟩])) (
    .reg none [⟨(some 12), none, .mv (.t 4)⟩,
      ⟨(some 13), none, .bin .add (.t 12) (.c (.int .i64 (1)))⟩,
      ⟨(some 4), none, .asn (.t 13)⟩])))))) (
 .seq (
  .reg none [⟨(some 22), none, .mv (.t 3)⟩,
    ⟨(some 2), none, .asn (.t 22)⟩]) (
 .ret))))
def r_laws_toOutcomeS : Nat × List RV := (23, [.t 2])

theorem c_laws_toOutcomeS : cmpS PT PF PA (Tryz.prog.funcs[115]?) = some (r_laws_toOutcomeS.1, r_laws_toOutcomeS.2, stripK k_laws_toOutcomeS) := by kernel_rfl

theorem h_toOutcomeS (xs : List TOutcome) (hx : wL wOutcome xs < 2 ^ 31) : CallsF Tryz.prog 115 [.one (.ar false 0 3 (xs.map sOutcome))] (.one (.ar true 132 3 (xs.map rOutcome))) := by
  refine Prun c_laws_toOutcomeS (by simp [r_laws_toOutcomeS]) (by simp) ?_
  unfold k_laws_toOutcomeS r_laws_toOutcomeS
  have hlen := wL_len wOutcome xs
  have hc : ((xs.length : Int) ≤ 4294967296) := by omega
  simp [hc]
  refine awp_loop (fun n σ => ∃ i : Nat, i ≤ xs.length ∧ n = xs.length - i ∧ σ = ⟨[(0, .one (.ar false 0 3 (xs.map sOutcome))), (3, .one (.vw 132 3 3 [] 0 xs.length)), (4, aI i)], [(3, ⟨132, 3, part rOutcome zOutcome xs i⟩)]⟩) (xs.length) ⟨0, by simp [part_zero, zOutcome]⟩ ?_
  rintro n σ ⟨i, hi, rfl, rfl⟩
  by_cases h : i < xs.length
  · have hw := wL_get wOutcome xs i h
    have := part_set (r := rOutcome) (z := zOutcome) h
    simp [h, sOutcome]
    refine callG_F (h_toOutcome xs[i] (by omega)) (by simp) ?_
    simp [h, part_get h, rOutcome, zOutcome]
    refine ⟨xs.length - (i + 1), by omega, i + 1, by omega, rfl, ?_⟩
    rw [wrapI (by omega) (by omega)]
    simp only [rOutcome, zOutcome] at this
    simp [rOutcome, zOutcome, this]
  · have : i = xs.length := by omega
    subst this
    simp [part_all]
end Go.Am
-- Tenant_to1
namespace Go.Am
open Go.Proofs
set_option maxHeartbeats 4000000
set_option maxRecDepth 100000
-- 76 loop.example/g00485/laws.toTenant
def k_laws_toTenant : K :=
 .seq (
  .reg none [⟨(some 1), none, .box 115 10 (.t 0)⟩,
    ⟨(some 2), none, .alc 75 10 [(.int .i64 (0)), (.int .i64 (0)), (.int .i64 (0)), (.int .i64 (0)), (.int .i64 (0)), (.int .i64 (0)), (.int .i64 (0)), (.int .i64 (0)), (.ar true 121 10 []), (.ar true 132 3 [])]⟩]) (
 .seq (
  .reg none [⟨(some 3), none, .alc 75 10 [(.int .i64 (0)), (.int .i64 (0)), (.int .i64 (0)), (.int .i64 (0)), (.int .i64 (0)), (.int .i64 (0)), (.int .i64 (0)), (.int .i64 (0)), (.ar true 121 10 []), (.ar true 132 3 [])]⟩]) (
 .seq (
  .reg none [⟨(some 4), none, .fad 0 (.t 1)⟩,
    ⟨(some 5), none, .ld 1 false (.t 4)⟩,
    ⟨(some 6), none, .fad 0 (.t 3)⟩,
    ⟨none, none, .st 1 false (.t 6) (.t 5)⟩]) (
 .seq (
  .reg none [⟨(some 7), none, .fad 1 (.t 1)⟩,
    ⟨(some 8), none, .ld 1 false (.t 7)⟩,
    ⟨(some 9), none, .fad 1 (.t 3)⟩,
    ⟨none, none, .st 1 false (.t 9) (.t 8)⟩]) (
 .seq (
  .reg none [⟨(some 10), none, .fad 2 (.t 1)⟩,
    ⟨(some 11), none, .ld 1 false (.t 10)⟩,
    ⟨(some 12), none, .fad 2 (.t 3)⟩,
    ⟨none, none, .st 1 false (.t 12) (.t 11)⟩]) (
 .seq (
  .reg none [⟨(some 13), none, .fad 3 (.t 1)⟩,
    ⟨(some 14), none, .ld 1 false (.t 13)⟩,
    ⟨(some 15), none, .fad 3 (.t 3)⟩,
    ⟨none, none, .st 1 false (.t 15) (.t 14)⟩]) (
 .seq (
  .reg none [⟨(some 16), none, .fad 4 (.t 1)⟩,
    ⟨(some 17), none, .ld 1 false (.t 16)⟩,
    ⟨(some 18), none, .fad 4 (.t 3)⟩,
    ⟨none, none, .st 1 false (.t 18) (.t 17)⟩]) (
 .seq (
  .reg none [⟨(some 19), none, .fad 5 (.t 1)⟩,
    ⟨(some 20), none, .ld 1 false (.t 19)⟩,
    ⟨(some 21), none, .fad 5 (.t 3)⟩,
    ⟨none, none, .st 1 false (.t 21) (.t 20)⟩]) (
 .seq (
  .reg none [⟨(some 22), none, .fad 6 (.t 1)⟩,
    ⟨(some 23), none, .ld 1 false (.t 22)⟩,
    ⟨(some 24), none, .fad 6 (.t 3)⟩,
    ⟨none, none, .st 1 false (.t 24) (.t 23)⟩]) (
 .seq (
  .reg none [⟨(some 25), none, .fad 7 (.t 1)⟩,
    ⟨(some 26), none, .ld 1 false (.t 25)⟩,
    ⟨(some 27), none, .fad 7 (.t 3)⟩,
    ⟨none, none, .st 1 false (.t 27) (.t 26)⟩]) (
 .seq (
  .reg none [⟨(some 28), none, .fad 8 (.t 1)⟩,
    ⟨(some 29), none, .ld 1 false (.t 28)⟩,
    ⟨(some 30), none, .call 114 [(.t 29)]⟩,
    ⟨(some 31), none, .fad 8 (.t 3)⟩,
    ⟨none, none, .st 1 false (.t 31) (.t 30)⟩]) (
 .seq (
  .reg none [⟨(some 32), none, .fad 9 (.t 1)⟩,
    ⟨(some 33), none, .ld 1 false (.t 32)⟩,
    ⟨(some 34), none, .call 115 [(.t 33)]⟩,
    ⟨(some 35), none, .fad 9 (.t 3)⟩,
    ⟨none, none, .st 1 false (.t 35) (.t 34)⟩]) (
 .seq (
  .reg none [⟨(some 36), none, .ld 10 true (.t 3)⟩,
    ⟨none, none, .st 10 false (.t 2) (.t 36)⟩]) (
 .ret)))))))))))))
def r_laws_toTenant : Nat × List RV := (37, [.c 2 10 true])

theorem c_laws_toTenant : cmpS PT PF PA (Tryz.prog.funcs[76]?) = some (r_laws_toTenant.1, r_laws_toTenant.2, stripK k_laws_toTenant) := by kernel_rfl

theorem h_toTenant (a : TTenant) (ha : wTenant a < 2 ^ 31) : CallsF Tryz.prog 76 [.agg (sTenant a)] (.agg (rTenant a)) := by
  refine Prun c_laws_toTenant (by simp [r_laws_toTenant]) (by simp) ?_
  unfold k_laws_toTenant r_laws_toTenant
  simp only [wTenant] at ha
  simp [sTenant]
  refine callG_F (h_toJobS a.queue (by omega)) (by simp) ?_
  simp
  refine callG_F (h_toOutcomeS a.out (by omega)) (by simp) ?_
  simp [rTenant]
end Go.Am
-- Tenant_to
namespace Go.Am
open Go.Proofs
set_option maxHeartbeats 4000000
set_option maxRecDepth 100000
-- 39 loop.example/g00485/laws.toTenantS
def k_laws_toTenantS : K :=
 .seq (
  .reg none [⟨(some 2), none, .asn (.c (.ar true 75 10 []))⟩]) (
 .seq (
  .reg none [⟨(some 5), none, .mv (.t 0)⟩,
    ⟨(some 6), none, .len (.t 5)⟩,
    ⟨(some 7), none, .mks 75 10 112 [(.int .i64 (0)), (.int .i64 (0)), (.int .i64 (0)), (.int .i64 (0)), (.int .i64 (0)), (.int .i64 (0)), (.int .i64 (0)), (.int .i64 (0)), (.ar true 121 10 []), (.ar true 132 3 [])] (.t 6) (.t 6)⟩,
    ⟨(some 3), none, .asn (.t 7)⟩]) (
 .seq (
  .seq (
   .reg none [⟨(some 4), none, .asn (.c (.int .i64 (0)))⟩]) (
  .block 0 (
   .loop (some ([0, 3, 4], [0, 3, 4, 1000])) (
    .seq (
     .seq (
      .reg none [⟨(some 8), none, .mv (.t 4)⟩,
        ⟨(some 9), none, .mv (.t 0)⟩,
        ⟨(some 10), none, .len (.t 9)⟩,
        ⟨(some 11), none, .bin .lss (.t 8) (.t 10)⟩]) (
     .cond (.t 11) (
      .skip) (
      .exit 0))) (
    .seq (
     .block 1 (
      .reg none [⟨(some 14), none, .mv (.t 3)⟩,
        ⟨(some 15), none, .mv (.t 4)⟩,
        ⟨(some 16), none, .mv (.t 0)⟩,
        ⟨(some 17), none, .mv (.t 4)⟩,
        ⟨(some 18), none, .iad 10 (.t 16) (.t 17)⟩,
        ⟨(some 19), none, .ld 10 true (.t 18)⟩,
        ⟨(some 20), none, .call 76 [(.t 19)]⟩,
        ⟨(some 21), none, .iad 10 (.t 14) (.t 15)⟩,
        ⟨none, none, .st 10 false (.t 21) (.t 20)⟩])) (
    .reg none [⟨(some 12), none, .mv (.t 4)⟩,
      ⟨(some 13), none, .bin .add (.t 12) (.c (.int .i64 (1)))⟩,
      ⟨(some 4), none, .asn (.t 13)⟩])))))) (
 .seq (
  .reg none [⟨(some 22), none, .mv (.t 3)⟩,
    ⟨(some 2), none, .asn (.t 22)⟩]) (
 .ret))))
def r_laws_toTenantS : Nat × List RV := (23, [.t 2])

theorem c_laws_toTenantS : cmpS PT PF PA (Tryz.prog.funcs[39]?) = some (r_laws_toTenantS.1, r_laws_toTenantS.2, stripK k_laws_toTenantS) := by kernel_rfl

theorem h_toTenantS (xs : List TTenant) (hx : wL wTenant xs < 2 ^ 31) : CallsF Tryz.prog 39 [.one (.ar false 0 10 (xs.map sTenant))] (.one (.ar true 75 10 (xs.map rTenant))) := by
  refine Prun c_laws_toTenantS (by simp [r_laws_toTenantS]) (by simp) ?_
  unfold k_laws_toTenantS r_laws_toTenantS
  have hlen := wL_len wTenant xs
  have hc : ((xs.length : Int) ≤ 4294967296) := by omega
  simp [hc]
  refine awp_loop (fun n σ => ∃ i : Nat, i ≤ xs.length ∧ n = xs.length - i ∧ σ = ⟨[(0, .one (.ar false 0 10 (xs.map sTenant))), (3, .one (.vw 75 10 3 [] 0 xs.length)), (4, aI i)], [(3, ⟨75, 10, part rTenant zTenant xs i⟩)]⟩) (xs.length) ⟨0, by simp [part_zero, zTenant]⟩ ?_
  rintro n σ ⟨i, hi, rfl, rfl⟩
  by_cases h : i < xs.length
  · have hw := wL_get wTenant xs i h
    have := part_set (r := rTenant) (z := zTenant) h
    simp [h, sTenant]
    refine callG_F (h_toTenant xs[i] (by omega)) (by simp) ?_
    simp [h, part_get h, rTenant, zTenant]
    refine ⟨xs.length - (i + 1), by omega, i + 1, by omega, rfl, ?_⟩
    rw [wrapI (by omega) (by omega)]
    simp only [rTenant, zTenant] at this
    simp [rTenant, zTenant, this]
  · have : i = xs.length := by omega
    subst this
    simp [part_all]
end Go.Am
-- House_to1
namespace Go.Am
open Go.Proofs
set_option maxHeartbeats 4000000
set_option maxRecDepth 100000
-- 8 loop.example/g00485/laws.toHouse
def k_laws_toHouse : K :=
 .seq (
  .reg none [⟨(some 1), none, .box 26 5 (.t 0)⟩,
    ⟨(some 2), none, .alc 33 5 [(.int .i64 (0)), (.int .i64 (0)), (.ar true 42 1 []), (.ar true 57 2 []), (.ar true 75 10 [])]⟩]) (
 .seq (
  .reg none [⟨(some 3), none, .alc 33 5 [(.int .i64 (0)), (.int .i64 (0)), (.ar true 42 1 []), (.ar true 57 2 []), (.ar true 75 10 [])]⟩]) (
 .seq (
  .reg none [⟨(some 4), none, .fad 0 (.t 1)⟩,
    ⟨(some 5), none, .ld 1 false (.t 4)⟩,
    ⟨(some 6), none, .fad 0 (.t 3)⟩,
    ⟨none, none, .st 1 false (.t 6) (.t 5)⟩]) (
 .seq (
  .reg none [⟨(some 7), none, .fad 1 (.t 1)⟩,
    ⟨(some 8), none, .ld 1 false (.t 7)⟩,
    ⟨(some 9), none, .fad 1 (.t 3)⟩,
    ⟨none, none, .st 1 false (.t 9) (.t 8)⟩]) (
 .seq (
  .reg none [⟨(some 10), none, .fad 2 (.t 1)⟩,
    ⟨(some 11), none, .ld 1 false (.t 10)⟩,
    ⟨(some 12), none, .call 37 [(.t 11)]⟩,
    ⟨(some 13), none, .fad 2 (.t 3)⟩,
    ⟨none, none, .st 1 false (.t 13) (.t 12)⟩]) (
 .seq (
  .reg none [⟨(some 14), none, .fad 3 (.t 1)⟩,
    ⟨(some 15), none, .ld 1 false (.t 14)⟩,
    ⟨(some 16), none, .call 38 [(.t 15)]⟩,
    ⟨(some 17), none, .fad 3 (.t 3)⟩,
    ⟨none, none, .st 1 false (.t 17) (.t 16)⟩]) (
 .seq (
  .reg none [⟨(some 18), none, .fad 4 (.t 1)⟩,
    ⟨(some 19), none, .ld 1 false (.t 18)⟩,
    ⟨(some 20), none, .call 39 [(.t 19)]⟩,
    ⟨(some 21), none, .fad 4 (.t 3)⟩,
    ⟨none, none, .st 1 false (.t 21) (.t 20)⟩]) (
 .seq (
  .reg none [⟨(some 22), none, .ld 5 true (.t 3)⟩,
    ⟨none, none, .st 5 false (.t 2) (.t 22)⟩]) (
 .ret))))))))
def r_laws_toHouse : Nat × List RV := (23, [.c 2 5 true])

theorem c_laws_toHouse : cmpS PT PF PA (Tryz.prog.funcs[8]?) = some (r_laws_toHouse.1, r_laws_toHouse.2, stripK k_laws_toHouse) := by kernel_rfl

theorem h_toHouse (a : THouse) (ha : wHouse a < 2 ^ 31) : CallsF Tryz.prog 8 [.agg (sHouse a)] (.agg (rHouse a)) := by
  refine Prun c_laws_toHouse (by simp [r_laws_toHouse]) (by simp) ?_
  unfold k_laws_toHouse r_laws_toHouse
  simp only [wHouse] at ha
  simp [sHouse]
  refine callG_F (h_toGramS a.grams (by omega)) (by simp) ?_
  simp
  refine callG_F (h_toStoreS a.stores (by omega)) (by simp) ?_
  simp
  refine callG_F (h_toTenantS a.tenants (by omega)) (by simp) ?_
  simp [rHouse]
end Go.Am
-- L_HouseSame
namespace Go.Am
open Go.Proofs
set_option maxHeartbeats 4000000
set_option maxRecDepth 100000
-- 3 loop.example/g00485/laws.FnExactHouseSame
def k_laws_FnExactHouseSame : K :=
 .seq (
  .reg none [⟨(some 2), none, .box 26 5 (.t 0)⟩,
    ⟨(some 3), none, .box 26 5 (.t 1)⟩,
    ⟨(some 4), none, .asn (.c (.bool false))⟩]) (
 .seq (
  .reg none [⟨(some 5), none, .asn (.c (.int .i64 (1048576)))⟩]) (
 .seq (
  .reg none [⟨(some 10), none, .ld 5 true (.t 2)⟩,
    ⟨(some 11), none, .mv (.t 5)⟩,
    ⟨(some 12), none, .call 6 [(.t 10), (.t 11)]⟩,
    ⟨(some 5), none, .asn (.t 12)⟩]) (
 .seq (
  .seq (
   .reg none [⟨(some 13), none, .mv (.t 5)⟩,
     ⟨(some 14), none, .bin .lss (.t 13) (.c (.int .i64 (0)))⟩]) (
  .cond (.t 14) (
   .seq (
    .reg none [⟨(some 4), none, .asn (.c (.bool true))⟩]) (
   .ret)) (
   .skip))) (
 .seq (
  .reg none [⟨(some 15), none, .ld 5 true (.t 3)⟩,
    ⟨(some 16), none, .mv (.t 5)⟩,
    ⟨(some 17), none, .call 6 [(.t 15), (.t 16)]⟩,
    ⟨(some 5), none, .asn (.t 17)⟩]) (
 .seq (
  .seq (
   .reg none [⟨(some 18), none, .mv (.t 5)⟩,
     ⟨(some 19), none, .bin .lss (.t 18) (.c (.int .i64 (0)))⟩]) (
  .cond (.t 19) (
   .seq (
    .reg none [⟨(some 4), none, .asn (.c (.bool true))⟩]) (
   .ret)) (
   .skip))) (
 .seq (
  .grp none 3 [0, 2] [1] [⟨(some 20), none, .ld 5 true (.t 2)⟩,
    ⟨(some 21), none, .call 8 [(.t 20)]⟩,
    ⟨(some 22), none, .ld 5 true (.t 3)⟩,
    ⟨(some 23), none, .call 8 [(.t 22)]⟩,
    ⟨(some 24), none, .call 7 [(.t 21), (.t 23)]⟩,
    ⟨(some 6), none, .asn (.t 24)⟩]) (
 .seq (
  .reg none [⟨(some 25), none, .ld 5 true (.t 2)⟩,
    ⟨(some 26), none, .call 8 [(.t 25)]⟩,
    ⟨(some 7), none, .alc 33 5 [(.int .i64 (0)), (.int .i64 (0)), (.ar true 42 1 []), (.ar true 57 2 []), (.ar true 75 10 [])]⟩,
    ⟨none, none, .st 5 false (.t 7) (.t 26)⟩]) (
 .seq (
  .reg none [⟨(some 27), none, .ld 5 true (.t 3)⟩,
    ⟨(some 28), none, .call 8 [(.t 27)]⟩,
    ⟨(some 8), none, .alc 33 5 [(.int .i64 (0)), (.int .i64 (0)), (.ar true 42 1 []), (.ar true 57 2 []), (.ar true 75 10 [])]⟩,
    ⟨none, none, .st 5 false (.t 8) (.t 28)⟩]) (
 .seq (
  .reg none [⟨(some 29), none, .ld 5 true (.t 7)⟩,
    ⟨(some 30), none, .ld 5 true (.t 8)⟩,
    ⟨(some 31), none, .call 9 [(.t 29), (.t 30)]⟩,
    ⟨(some 9), none, .asn (.t 31)⟩]) (
 .seq (
  .seq (
   .reg none [⟨(some 32), none, .mv (.t 9)⟩,
     ⟨(some 33), none, .mv (.t 6)⟩,
     ⟨(some 34), none, .beq true (.t 32) (.t 33)⟩]) (
  .cond (.t 34) (
   .seq (
    .reg none [⟨(some 4), none, .asn (.c (.bool false))⟩]) (
   .ret)) (
   .skip))) (
 .seq (
  .seq (
   .grp none 3 [0, 1] [2] [⟨(some 35), none, .ld 5 true (.t 7)⟩,
     ⟨(some 36), none, .ld 5 true (.t 2)⟩,
     ⟨(some 37), none, .call 8 [(.t 36)]⟩,
     ⟨(some 38), none, .call 10 [(.t 35), (.t 37)]⟩,
     ⟨(some 39), none, .not (.t 38)⟩]) (
  .cond (.t 39) (
   .seq (
    .reg none [⟨(some 4), none, .asn (.c (.bool false))⟩]) (
   .ret)) (
   .skip))) (
 .seq (
  .seq (
   .grp none 3 [0, 1] [2] [⟨(some 40), none, .ld 5 true (.t 8)⟩,
     ⟨(some 41), none, .ld 5 true (.t 3)⟩,
     ⟨(some 42), none, .call 8 [(.t 41)]⟩,
     ⟨(some 43), none, .call 10 [(.t 40), (.t 42)]⟩,
     ⟨(some 44), none, .not (.t 43)⟩]) (
  .cond (.t 44) (
   .seq (
    .reg none [⟨(some 4), none, .asn (.c (.bool false))⟩]) (
   .ret)) (
   .skip))) (
 .seq (
  .reg none [⟨(some 4), none, .asn (.c (.bool true))⟩]) (
 .ret))))))))))))))
def r_laws_FnExactHouseSame : Nat × List RV := (45, [.t 4])

theorem c_laws_FnExactHouseSame : cmpS PT PF PA (Tryz.prog.funcs[3]?) = some (r_laws_FnExactHouseSame.1, r_laws_FnExactHouseSame.2, stripK k_laws_FnExactHouseSame) := by kernel_rfl

theorem h_law_HouseSame (a : THouse) (hla : lHouse a) (b : THouse) (hlb : lHouse b) : CallsF Tryz.prog 3 [.agg (sHouse a), .agg (sHouse b)] (aB true) := by
  refine Prun c_laws_FnExactHouseSame (by simp [r_laws_FnExactHouseSame]) (by simp) ?_
  unfold k_laws_FnExactHouseSame r_laws_FnExactHouseSame
  have hsz1 := h_szHouse a 1048576 hla (by omega) (by omega)
  simp [sHouse]
  refine callG_F hsz1 (by simp) ?_
  by_cases g1 : (1048576 : Int) < (wHouse a : Int)
  · simp [lft_neg g1]
  have e1 : lft 1048576 (wHouse a) = 1048576 - wHouse a := lft_pos (by omega)
  have n1 : ¬ (1048576 : Int) - wHouse a < 0 := by omega
  simp [e1, n1]
  have hsz2 := h_szHouse b (1048576 - wHouse a) hlb (by omega) (by omega)
  refine callG_F hsz2 (by simp) ?_
  by_cases g2 : (1048576 - wHouse a : Int) < (wHouse b : Int)
  · simp [lft_neg g2]
  have e2 : lft (1048576 - wHouse a) (wHouse b) = 1048576 - wHouse a - wHouse b := lft_pos (by omega)
  have n2 : ¬ (1048576 : Int) - wHouse a - wHouse b < 0 := by omega
  have hta := h_toHouse a (by omega)
  have htb := h_toHouse b (by omega)
  have hea := h_eqHouse a (by omega)
  have heb := h_eqHouse b (by omega)
  have hs := h_spec_HouseSame a b (by omega)
  have hi := h_impl_HouseSame a b (by omega)
  simp [e2, n2]
  refine gcal_F hta (by simp) ?_
  try simp
  refine callG_F htb (by simp) ?_
  simp [rHouse]
  refine callG_F hs (by simp) ?_
  simp
  refine callG_F hta (by simp) ?_
  simp [rHouse]
  refine callG_F htb (by simp) ?_
  simp [rHouse]
  refine callG_F hi (by simp) ?_
  simp
  refine gcal_F hta (by simp) ?_
  try simp [rHouse]
  refine callG_F hea (by simp) ?_
  simp
  refine gcal_F htb (by simp) ?_
  try simp [rHouse]
  refine callG_F heb (by simp) ?_
  simp
end Go.Am
-- Gram_sh
namespace Go.Am
open Go.Proofs
set_option maxHeartbeats 4000000
set_option maxRecDepth 100000
def shGram : List Sh := [.l 1 [.l 1 [.l 1 [.i]]]]
theorem of_Gram (x : List C) (h : inShs shGram x) : ∃ a : TGram, x = sGram a ∧ lGram a := by
  simp only [shGram, inShs] at h
  obtain ⟨c0, r0, rfl, h0, rfl⟩ := h
  obtain ⟨n0, rfl, g0⟩ := of_sl of_ISS c0 h0
  refine ⟨⟨n0⟩, rfl, ?_⟩
  simp only [lGram]
  exact g0
end Go.Am
-- Conf_sh
namespace Go.Am
open Go.Proofs
set_option maxHeartbeats 4000000
set_option maxRecDepth 100000
def shConf : List Sh := [.i, .l 1 [.i]]
theorem of_Conf (x : List C) (h : inShs shConf x) : ∃ a : TConf, x = sConf a ∧ lConf a := by
  simp only [shConf, inShs] at h
  obtain ⟨c0, r0, rfl, h0, c1, r1, rfl, h1, rfl⟩ := h
  simp only [inSh] at h0
  obtain ⟨n0, rfl⟩ := h0
  obtain ⟨n1, rfl, g1⟩ := of_sl of_int c1 h1
  refine ⟨⟨n0, n1⟩, rfl, ?_⟩
  simp only [lConf]
  exact g1
end Go.Am
-- Line_sh
namespace Go.Am
open Go.Proofs
set_option maxHeartbeats 4000000
set_option maxRecDepth 100000
def shLine : List Sh := [.l 2 shConf, .i, .l 2 shConf]
theorem of_Line (x : List C) (h : inShs shLine x) : ∃ a : TLine, x = sLine a ∧ lLine a := by
  simp only [shLine, inShs] at h
  obtain ⟨c0, r0, rfl, h0, c1, r1, rfl, h1, c2, r2, rfl, h2, rfl⟩ := h
  obtain ⟨n0, rfl, g0⟩ := of_sl of_Conf c0 h0
  simp only [inSh] at h1
  obtain ⟨n1, rfl⟩ := h1
  obtain ⟨n2, rfl, g2⟩ := of_sl of_Conf c2 h2
  refine ⟨⟨n0, n1, n2⟩, rfl, ?_⟩
  simp only [lLine]
  exact ⟨g0, g2⟩
end Go.Am
-- Store_sh
namespace Go.Am
open Go.Proofs
set_option maxHeartbeats 4000000
set_option maxRecDepth 100000
def shStore : List Sh := [.i, .l 3 shLine]
theorem of_Store (x : List C) (h : inShs shStore x) : ∃ a : TStore, x = sStore a ∧ lStore a := by
  simp only [shStore, inShs] at h
  obtain ⟨c0, r0, rfl, h0, c1, r1, rfl, h1, rfl⟩ := h
  simp only [inSh] at h0
  obtain ⟨n0, rfl⟩ := h0
  obtain ⟨n1, rfl, g1⟩ := of_sl of_Line c1 h1
  refine ⟨⟨n0, n1⟩, rfl, ?_⟩
  simp only [lStore]
  exact g1
end Go.Am
-- Err_sh
namespace Go.Am
open Go.Proofs
set_option maxHeartbeats 4000000
set_option maxRecDepth 100000
def shErr : List Sh := [.i, .i, .i]
theorem of_Err (x : List C) (h : inShs shErr x) : ∃ a : TErr, x = sErr a ∧ lErr a := by
  simp only [shErr, inShs] at h
  obtain ⟨c0, r0, rfl, h0, c1, r1, rfl, h1, c2, r2, rfl, h2, rfl⟩ := h
  simp only [inSh] at h0
  obtain ⟨n0, rfl⟩ := h0
  simp only [inSh] at h1
  obtain ⟨n1, rfl⟩ := h1
  simp only [inSh] at h2
  obtain ⟨n2, rfl⟩ := h2
  refine ⟨⟨n0, n1, n2⟩, rfl, ?_⟩
  simp only [lErr]
end Go.Am
-- Node_sh
namespace Go.Am
open Go.Proofs
set_option maxHeartbeats 4000000
set_option maxRecDepth 100000
def shNode : List Sh := [.i, .i, .i, .i, .l 1 [.i]]
theorem of_Node (x : List C) (h : inShs shNode x) : ∃ a : TNode, x = sNode a ∧ lNode a := by
  simp only [shNode, inShs] at h
  obtain ⟨c0, r0, rfl, h0, c1, r1, rfl, h1, c2, r2, rfl, h2, c3, r3, rfl, h3, c4, r4, rfl, h4, rfl⟩ := h
  simp only [inSh] at h0
  obtain ⟨n0, rfl⟩ := h0
  simp only [inSh] at h1
  obtain ⟨n1, rfl⟩ := h1
  simp only [inSh] at h2
  obtain ⟨n2, rfl⟩ := h2
  simp only [inSh] at h3
  obtain ⟨n3, rfl⟩ := h3
  obtain ⟨n4, rfl, g4⟩ := of_sl of_int c4 h4
  refine ⟨⟨n0, n1, n2, n3, n4⟩, rfl, ?_⟩
  simp only [lNode]
  exact g4
end Go.Am
-- Slot_sh
namespace Go.Am
open Go.Proofs
set_option maxHeartbeats 4000000
set_option maxRecDepth 100000
def shSlot : List Sh := [.i, .i]
theorem of_Slot (x : List C) (h : inShs shSlot x) : ∃ a : TSlot, x = sSlot a ∧ lSlot a := by
  simp only [shSlot, inShs] at h
  obtain ⟨c0, r0, rfl, h0, c1, r1, rfl, h1, rfl⟩ := h
  simp only [inSh] at h0
  obtain ⟨n0, rfl⟩ := h0
  simp only [inSh] at h1
  obtain ⟨n1, rfl⟩ := h1
  refine ⟨⟨n0, n1⟩, rfl, ?_⟩
  simp only [lSlot]
end Go.Am
-- Job_sh
namespace Go.Am
open Go.Proofs
set_option maxHeartbeats 4000000
set_option maxRecDepth 100000
def shJob : List Sh := [.i, .i, .l 1 [.i], .i, .i, .i, .i, .l 2 shSlot, .l 5 shNode, .l 3 shErr]
theorem of_Job (x : List C) (h : inShs shJob x) : ∃ a : TJob, x = sJob a ∧ lJob a := by
  simp only [shJob, inShs] at h
  obtain ⟨c0, r0, rfl, h0, c1, r1, rfl, h1, c2, r2, rfl, h2, c3, r3, rfl, h3, c4, r4, rfl, h4, c5, r5, rfl, h5, c6, r6, rfl, h6, c7, r7, rfl, h7, c8, r8, rfl, h8, c9, r9, rfl, h9, rfl⟩ := h
  simp only [inSh] at h0
  obtain ⟨n0, rfl⟩ := h0
  simp only [inSh] at h1
  obtain ⟨n1, rfl⟩ := h1
  obtain ⟨n2, rfl, g2⟩ := of_sl of_int c2 h2
  simp only [inSh] at h3
  obtain ⟨n3, rfl⟩ := h3
  simp only [inSh] at h4
  obtain ⟨n4, rfl⟩ := h4
  simp only [inSh] at h5
  obtain ⟨n5, rfl⟩ := h5
  simp only [inSh] at h6
  obtain ⟨n6, rfl⟩ := h6
  obtain ⟨n7, rfl, g7⟩ := of_sl of_Slot c7 h7
  obtain ⟨n8, rfl, g8⟩ := of_sl of_Node c8 h8
  obtain ⟨n9, rfl, g9⟩ := of_sl of_Err c9 h9
  refine ⟨⟨n0, n1, n2, ⟨n3, n4, n5, n6, n7, ⟨n8⟩, n9⟩⟩, rfl, ?_⟩
  simp only [lJob, lRun, lTree]
  exact ⟨g2, ⟨g7, g8, g9⟩⟩
end Go.Am
-- Outcome_sh
namespace Go.Am
open Go.Proofs
set_option maxHeartbeats 4000000
set_option maxRecDepth 100000
def shOutcome : List Sh := [.i, .i, .s]
theorem of_Outcome (x : List C) (h : inShs shOutcome x) : ∃ a : TOutcome, x = sOutcome a ∧ lOutcome a := by
  simp only [shOutcome, inShs] at h
  obtain ⟨c0, r0, rfl, h0, c1, r1, rfl, h1, c2, r2, rfl, h2, rfl⟩ := h
  simp only [inSh] at h0
  obtain ⟨n0, rfl⟩ := h0
  simp only [inSh] at h1
  obtain ⟨n1, rfl⟩ := h1
  simp only [inSh] at h2
  obtain ⟨n2, rfl, g2⟩ := h2
  refine ⟨⟨n0, n1, n2⟩, rfl, ?_⟩
  simp only [lOutcome]
  exact g2
end Go.Am
-- Tenant_sh
namespace Go.Am
open Go.Proofs
set_option maxHeartbeats 4000000
set_option maxRecDepth 100000
def shTenant : List Sh := [.i, .i, .i, .i, .i, .i, .i, .i, .l 10 shJob, .l 3 shOutcome]
theorem of_Tenant (x : List C) (h : inShs shTenant x) : ∃ a : TTenant, x = sTenant a ∧ lTenant a := by
  simp only [shTenant, inShs] at h
  obtain ⟨c0, r0, rfl, h0, c1, r1, rfl, h1, c2, r2, rfl, h2, c3, r3, rfl, h3, c4, r4, rfl, h4, c5, r5, rfl, h5, c6, r6, rfl, h6, c7, r7, rfl, h7, c8, r8, rfl, h8, c9, r9, rfl, h9, rfl⟩ := h
  simp only [inSh] at h0
  obtain ⟨n0, rfl⟩ := h0
  simp only [inSh] at h1
  obtain ⟨n1, rfl⟩ := h1
  simp only [inSh] at h2
  obtain ⟨n2, rfl⟩ := h2
  simp only [inSh] at h3
  obtain ⟨n3, rfl⟩ := h3
  simp only [inSh] at h4
  obtain ⟨n4, rfl⟩ := h4
  simp only [inSh] at h5
  obtain ⟨n5, rfl⟩ := h5
  simp only [inSh] at h6
  obtain ⟨n6, rfl⟩ := h6
  simp only [inSh] at h7
  obtain ⟨n7, rfl⟩ := h7
  obtain ⟨n8, rfl, g8⟩ := of_sl of_Job c8 h8
  obtain ⟨n9, rfl, g9⟩ := of_sl of_Outcome c9 h9
  refine ⟨⟨n0, n1, n2, n3, n4, n5, n6, n7, n8, n9⟩, rfl, ?_⟩
  simp only [lTenant]
  exact ⟨g8, g9⟩
end Go.Am
-- House_sh
namespace Go.Am
open Go.Proofs
set_option maxHeartbeats 4000000
set_option maxRecDepth 100000
def shHouse : List Sh := [.i, .i, .l 1 shGram, .l 2 shStore, .l 10 shTenant]
theorem of_House (x : List C) (h : inShs shHouse x) : ∃ a : THouse, x = sHouse a ∧ lHouse a := by
  simp only [shHouse, inShs] at h
  obtain ⟨c0, r0, rfl, h0, c1, r1, rfl, h1, c2, r2, rfl, h2, c3, r3, rfl, h3, c4, r4, rfl, h4, rfl⟩ := h
  simp only [inSh] at h0
  obtain ⟨n0, rfl⟩ := h0
  simp only [inSh] at h1
  obtain ⟨n1, rfl⟩ := h1
  obtain ⟨n2, rfl, g2⟩ := of_sl of_Gram c2 h2
  obtain ⟨n3, rfl, g3⟩ := of_sl of_Store c3 h3
  obtain ⟨n4, rfl, g4⟩ := of_sl of_Tenant c4 h4
  refine ⟨⟨n0, n1, n2, n3, n4⟩, rfl, ?_⟩
  simp only [lHouse]
  exact ⟨g2, g3, g4⟩
end Go.Am
-- B_FnExactHouseSame
namespace Go.Am
open Go.Proofs
set_option maxHeartbeats 4000000
set_option maxRecDepth 100000
open Go.ChangeShapes Go.WideShapes Go.ChangeAt Go.RowKit Go.Proofs.YtfcbminodkjklaaGreat
theorem own_FnExactHouseSame : ownKnob Tryz.prog.godebug = none := by kernel_rfl
theorem laidOut_FnExactHouseSame : laidOutB Tryz.prog = true := by kernel_rfl
set_option maxRecDepth 100000 in
theorem lifted_FnExactHouseSame (os : Os) (started : os.Started) (H : Type) (enc : TypeId × Value → H) :
    ReturnsInHanded {} Tryz.checked os 3 .any (Rows.fnExactHouseSameSpec.pre6 enc Tryz.prog Tryz.f3 Rows.fnExactHouseSameRow.domain false) (Rows.fnExactHouseSameSpec.post enc Tryz.prog Tryz.f3 false true false false) := by
  refine returnsInHanded_of_change (C := Tryz.checked) own_FnExactHouseSame started (by kernel_rfl) Tryz.func3
    (ChangeSpec.witness6 (enc := enc) (C := Tryz.checked) false ⟨#[], #[.agg #[.int .i64 0, .int .i64 0, .slice none 0 0, .slice none 0 0, .slice none 0 0], .agg #[.int .i64 0, .int .i64 0, .slice none 0 0, .slice none 0 0, .slice none 0 0]], []⟩ 8 (by kernel_rfl) (by kernel_rfl) (by kernel_rfl) (by kernel_rfl)) ?_
  intro W base args ds gs before hval0 hW hcnd _
  have hval : ∀ (j : Nat) t v, Tryz.f3.params[j]? = some t → args[j]? = some v → Value.okWide Tryz.prog W .any base t v := hval0
  have hW' := hW
  obtain ⟨p, q, hA0, hV, rfl, hfz, hnd⟩ := hW
  have hA : DataW.TrodAll enc Tryz.prog W 0 (fun _ => true) true Tryz.f3.params.toList args.toList ds p := hA0
  rw [Tryz.params3] at hA hval
  obtain ⟨v0, v1, d0, d1, p0, p1, rfl, rfl, rfl, h0, h1⟩ := trodAll_two hA
  obtain ⟨rfl, rfl⟩ := trodVars_none hV
  have hV0 : ∀ (W' : World) (sp : Nat → Bool), DataW.TrodVars enc Tryz.checked.prog W' sp Rows.fnExactHouseSameSpec.vars ([] : List (DataW H)) [] := fun _ _ => by first | rfl | trivial | exact ⟨rfl, rfl⟩ | exact ⟨_, rfl, rfl⟩
  have hk0 := h0
  have hs0 : shT Tryz.prog 12 26 = some shHouse := by kernel_rfl
  obtain ⟨row0, hc0, hr0⟩ := arg_st (lc := fun _ => none) Tryz.underlying26 hs0 (hval 0 26 v0 rfl rfl) h0
  obtain ⟨x0, rfl, hl0⟩ := of_House row0 hc0
  have hk1 := h1
  have hs1 : shT Tryz.prog 12 26 = some shHouse := by kernel_rfl
  obtain ⟨row1, hc1, hr1⟩ := arg_st (lc := fun _ => none) Tryz.underlying26 hs1 (hval 1 26 v1 rfl rfl) h1
  obtain ⟨x1, rfl, hl1⟩ := of_House row1 hc1
  clear hA0 hval0
  simp only [List.append_nil] at hW'
  refine (below_of (h_law_HouseSame x0 hl0 x1 hl1) (fun _ _ _ _ h => h.1) W [v0, v1] (by simp [sHouse, aI, A.ref, C.ref, refCs]) ⟨_, _, fz, fz, rfl, (add_fz _).symm, hr0, ⟨_, _, fz, fz, rfl, (add_fz _).symm, hr1, ⟨rfl, rfl⟩⟩⟩ rfl).mono fun e W' ⟨he, hw⟩ => ?_
  subst he
  exact ⟨_, rfl, [d0, d1], [], _, [], _, [], by simpa using hW', trodAll_mk1 (shut_bool Tryz.underlying4 true), trodAll_mk2 (Below.trod laidOut_FnExactHouseSame (by kernel_rfl) (of_decide_eq_true (by kernel_rfl)) hk0 hw (fun x hx => by have := hW'.lt x (by simp [hx]); simpa using this)) (Below.trod laidOut_FnExactHouseSame (by kernel_rfl) (of_decide_eq_true (by kernel_rfl)) hk1 hw (fun x hx => by have := hW'.lt x (by simp [hx]); simpa using this)), hV0 _ _, hw.frame _, fun h => by cases h⟩
theorem holds_FnExactHouseSame : Rows.FnExactHouseSameSaid :=
  OpenClaim.holds_of_wide 3 Tryz.f3 rfl rfl rfl rfl rfl rfl rfl ⟨rfl, rfl, rfl, rfl, rfl⟩ rfl rfl rfl rfl rfl (by kernel_rfl) Tryz.func3 (by kernel_rfl)
    (of_decide_eq_true (by kernel_rfl)) (by unfold Func.isWrapper; first | (rw [if_pos (by decide +kernel)]; kernel_rfl) | (rw [if_neg (by decide +kernel)]; exact ⟨rfl, rfl⟩))
    (fun os started H enc _ => lifted_FnExactHouseSame os started H enc)
#print axioms holds_FnExactHouseSame
end Go.Am
namespace Go.Proofs.YtfcbminodkjklaaGreat
theorem fnExactHouseSame_holds : Rows.FnExactHouseSameSaid := Go.Am.holds_FnExactHouseSame
end Go.Proofs.YtfcbminodkjklaaGreat
