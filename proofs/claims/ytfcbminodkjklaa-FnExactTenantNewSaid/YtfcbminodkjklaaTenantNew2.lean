/- PROVED: the program's TenantNew returns what the reference's returns, for all arguments. -/
import Derived.Test.YtfcbminodkjklaaTenantNew1
import Derived.Test.YtfcbminodkjklaaRows
import Derived.ProofKit
set_option linter.unusedVariables false
set_option linter.unusedSimpArgs false
-- Slot_hd
namespace Go.Am
open Go.Proofs
set_option maxHeartbeats 4000000
set_option maxRecDepth 100000
-- 101 loop.example/g00485/laws.heldSlotS
def k_laws_heldSlotS : K :=
 .seq (
  .reg none [⟨(some 4), none, .asn (.c (.int .i64 (0)))⟩]) (
 .seq (
  .seq (
   .reg none [⟨(some 5), none, .asn (.c (.int .i64 (0)))⟩]) (
  .block 0 (
   .loop (some ([0, 1, 5], [0, 1, 5, 1000])) (
    .seq (
     .seq (
      .reg none [⟨(some 6), none, .mv (.t 5)⟩,
        ⟨(some 7), none, .mv (.t 0)⟩,
        ⟨(some 8), none, .len (.t 7)⟩,
        ⟨(some 9), none, .bin .lss (.t 6) (.t 8)⟩]) (
     .cond (.t 9) (
      .skip) (
      .exit 0))) (
    .seq (
     .block 1 (
      .seq (
       .seq (
        .reg none [⟨(some 12), none, .mv (.t 0)⟩,
          ⟨(some 13), none, .mv (.t 5)⟩,
          ⟨(some 14), none, .iad 2 (.t 12) (.t 13)⟩,
          ⟨(some 15), none, .fad 0 (.t 14)⟩,
          ⟨(some 16), none, .ld 1 false (.t 15)⟩,
          ⟨(some 17), none, .mv (.t 1)⟩,
          ⟨(some 18), none, .bin .neq (.t 16) (.t 17)⟩]) (
       .cond (.t 18) (
        .seq (
         .reg none [⟨(some 4), none, .asn (.c (.int .i64 (-1)))⟩]) (
        .ret)) (
        .skip))) (
      .seq (
       .reg none [⟨(some 19), none, .mv (.t 1)⟩,
         ⟨(some 20), none, .bin .add (.t 19) (.c (.int .i64 (1)))⟩,
         ⟨(some 1), none, .asn (.t 20)⟩]) (
      .seq (
       .seq (
        .reg none [⟨(some 21), none, .mv (.t 0)⟩,
          ⟨(some 22), none, .mv (.t 5)⟩,
          ⟨(some 23), none, .iad 2 (.t 21) (.t 22)⟩,
          ⟨(some 24), none, .fad 1 (.t 23)⟩,
          ⟨(some 25), none, .ld 1 false (.t 24)⟩,
          ⟨(some 26), none, .mv (.t 1)⟩,
          ⟨(some 27), none, .bin .neq (.t 25) (.t 26)⟩]) (
       .cond (.t 27) (
        .seq (
         .reg none [⟨(some 4), none, .asn (.c (.int .i64 (-1)))⟩]) (
        .ret)) (
        .skip))) (
      .reg none [⟨(some 28), none, .mv (.t 1)⟩,
        ⟨(some 29), none, .bin .add (.t 28) (.c (.int .i64 (1)))⟩,
        ⟨(some 1), none, .asn (.t 29)⟩]))))) (
    .reg none [⟨(some 10), none, .mv (.t 5)⟩,
      ⟨(some 11), none, .bin .add (.t 10) (.c (.int .i64 (1)))⟩,
      ⟨(some 5), none, .asn (.t 11)⟩])))))) (
 .seq (
  .reg none [⟨(some 30), none, .mv (.t 1)⟩,
    ⟨(some 4), none, .asn (.t 30)⟩]) (
 .ret)))
def r_laws_heldSlotS : Nat × List RV := (31, [.t 4])

theorem c_laws_heldSlotS : cmpS PT PF PA (Try.prog.funcs[101]?) = some (r_laws_heldSlotS.1, r_laws_heldSlotS.2, stripK k_laws_heldSlotS) := by kernel_rfl

theorem h_heldSlotS (xs : List TSlot) (k : Int) (hk : 0 ≤ k) (hk2 : k + mSlot.nL xs < 2 ^ 50) (hk3 : wL wSlot xs < 2 ^ 50) : CallsF Try.prog 101 [.one (.ar false 0 2 ((mSlot.mkL xs k).map sSlot)), aI k] (aI (k + mSlot.nL xs)) := by
  refine Prun c_laws_heldSlotS (by simp [r_laws_heldSlotS]) (by simp) ?_
  unfold k_laws_heldSlotS r_laws_heldSlotS
  have hlen := wL_len wSlot xs
  simp
  refine awp_loop (fun n σ => ∃ i : Nat, i ≤ xs.length ∧ n = xs.length - i ∧ σ = ⟨[(0, .one (.ar false 0 2 ((mSlot.mkL xs k).map sSlot))), (1, aI (mSlot.pos xs k i)), (5, aI i)], []⟩) (xs.length) ⟨0, by simp [Mk.pos_zero]⟩ ?_
  rintro n σ ⟨i, hi, rfl, rfl⟩
  have hp1 : mSlot.pos xs k i ≤ k + mSlot.nL xs := Mk.pos_le hi
  have hp2 : k ≤ mSlot.pos xs k i := Mk.pos_ge
  by_cases h : i < xs.length
  · have hw := wL_get wSlot xs i h
    have hpst : mSlot.pos xs k (i + 1) = mSlot.pos xs k i + mSlot.n xs[i] := Mk.pos_step h
    have hle : mSlot.pos xs k (i + 1) ≤ k + mSlot.nL xs := Mk.pos_le h
    have hga := Mk.mkL_at (M := mSlot) (k := k) h
    generalize hκ : mSlot.pos xs k i = p0 at *
    rcases ha : xs[i] with ⟨bsym, bup⟩
    simp only [ha, mSlot_n, mSlot_wr] at hpst hga
    simp only [ha, wSlot] at hw
    obtain ⟨p1, hq1⟩ : ∃ p : Int, p = p0 + 1 := ⟨_, rfl⟩
    have ww0 : IntKind.i64.wrap (p0 + 1) = p1 := by rw [wrapI (by omega) (by omega), hq1]
    have nn0 : ¬ p1 < 0 := by omega
    obtain ⟨p2, hq2⟩ : ∃ p : Int, p = p1 + 1 := ⟨_, rfl⟩
    have ww1 : IntKind.i64.wrap (p1 + 1) = p2 := by rw [wrapI (by omega) (by omega), hq2]
    have nn1 : ¬ p2 < 0 := by omega
    simp only [← hq1, ← hq2] at hga
    simp [h, hga, sSlot, ww0, nn0, ww1, nn1]
    refine ⟨xs.length - (i + 1), by omega, i + 1, by omega, rfl, ?_⟩
    rw [wrapI (by omega) (by omega)]
    simp; omega
  · have : i = xs.length := by omega
    subst this
    simp [Mk.pos_all]
end Go.Am
-- Job_hd
namespace Go.Am
open Go.Proofs
set_option maxHeartbeats 4000000
set_option maxRecDepth 100000
-- 51 loop.example/g00485/laws.heldJobS
def k_laws_heldJobS : K :=
 .seq (
  .reg none [⟨(some 4), none, .asn (.c (.int .i64 (0)))⟩]) (
 .seq (
  .seq (
   .reg none [⟨(some 5), none, .asn (.c (.int .i64 (0)))⟩]) (
  .block 0 (
   .loop (some ([0, 1, 5], [0, 1, 5, 1000])) (
    .seq (
     .seq (
      .reg none [⟨(some 6), none, .mv (.t 5)⟩,
        ⟨(some 7), none, .mv (.t 0)⟩,
        ⟨(some 8), none, .len (.t 7)⟩,
        ⟨(some 9), none, .bin .lss (.t 6) (.t 8)⟩]) (
     .cond (.t 9) (
      .skip) (
      .exit 0))) (
    .seq (
     .block 1 (
      .seq (
       .seq (
        .reg none [⟨(some 12), none, .mv (.t 0)⟩,
          ⟨(some 13), none, .mv (.t 5)⟩,
          ⟨(some 14), none, .iad 10 (.t 12) (.t 13)⟩,
          ⟨(some 15), none, .fad 0 (.t 14)⟩,
          ⟨(some 16), none, .ld 1 false (.t 15)⟩,
          ⟨(some 17), none, .mv (.t 1)⟩,
          ⟨(some 18), none, .bin .neq (.t 16) (.t 17)⟩]) (
       .cond (.t 18) (
        .seq (
         .reg none [⟨(some 4), none, .asn (.c (.int .i64 (-1)))⟩]) (
        .ret)) (
        .skip))) (
      .seq (
       .reg none [⟨(some 19), none, .mv (.t 1)⟩,
         ⟨(some 20), none, .bin .add (.t 19) (.c (.int .i64 (1)))⟩,
         ⟨(some 1), none, .asn (.t 20)⟩]) (
      .seq (
       .seq (
        .reg none [⟨(some 21), none, .mv (.t 0)⟩,
          ⟨(some 22), none, .mv (.t 5)⟩,
          ⟨(some 23), none, .iad 10 (.t 21) (.t 22)⟩,
          ⟨(some 24), none, .fad 1 (.t 23)⟩,
          ⟨(some 25), none, .ld 1 false (.t 24)⟩,
          ⟨(some 26), none, .mv (.t 1)⟩,
          ⟨(some 27), none, .bin .neq (.t 25) (.t 26)⟩]) (
       .cond (.t 27) (
        .seq (
         .reg none [⟨(some 4), none, .asn (.c (.int .i64 (-1)))⟩]) (
        .ret)) (
        .skip))) (
      .seq (
       .reg none [⟨(some 28), none, .mv (.t 1)⟩,
         ⟨(some 29), none, .bin .add (.t 28) (.c (.int .i64 (1)))⟩,
         ⟨(some 1), none, .asn (.t 29)⟩]) (
      .seq (
       .reg none [⟨(some 30), none, .mv (.t 0)⟩,
         ⟨(some 31), none, .mv (.t 5)⟩,
         ⟨(some 32), none, .iad 10 (.t 30) (.t 31)⟩,
         ⟨(some 33), none, .fad 2 (.t 32)⟩,
         ⟨(some 34), none, .ld 1 false (.t 33)⟩,
         ⟨(some 35), none, .mv (.t 1)⟩,
         ⟨(some 36), none, .call 63 [(.t 34), (.t 35)]⟩,
         ⟨(some 1), none, .asn (.t 36)⟩]) (
      .seq (
       .seq (
        .reg none [⟨(some 37), none, .mv (.t 1)⟩,
          ⟨(some 38), none, .bin .lss (.t 37) (.c (.int .i64 (0)))⟩]) (
       .cond (.t 38) (
        .seq (
         .reg none [⟨(some 4), none, .asn (.c (.int .i64 (-1)))⟩]) (
        .ret)) (
        .skip))) (
      .seq (
       .seq (
        .reg none [⟨(some 39), none, .mv (.t 0)⟩,
          ⟨(some 40), none, .mv (.t 5)⟩,
          ⟨(some 41), none, .iad 10 (.t 39) (.t 40)⟩,
          ⟨(some 42), none, .fad 3 (.t 41)⟩,
          ⟨(some 43), none, .fad 0 (.t 42)⟩,
          ⟨(some 44), none, .ld 1 false (.t 43)⟩,
          ⟨(some 45), none, .mv (.t 1)⟩,
          ⟨(some 46), none, .bin .neq (.t 44) (.t 45)⟩]) (
       .cond (.t 46) (
        .seq (
         .reg none [⟨(some 4), none, .asn (.c (.int .i64 (-1)))⟩]) (
        .ret)) (
        .skip))) (
      .seq (
       .reg none [⟨(some 47), none, .mv (.t 1)⟩,
         ⟨(some 48), none, .bin .add (.t 47) (.c (.int .i64 (1)))⟩,
         ⟨(some 1), none, .asn (.t 48)⟩]) (
      .seq (
       .seq (
        .reg none [⟨(some 49), none, .mv (.t 0)⟩,
          ⟨(some 50), none, .mv (.t 5)⟩,
          ⟨(some 51), none, .iad 10 (.t 49) (.t 50)⟩,
          ⟨(some 52), none, .fad 3 (.t 51)⟩,
          ⟨(some 53), none, .fad 1 (.t 52)⟩,
          ⟨(some 54), none, .ld 1 false (.t 53)⟩,
          ⟨(some 55), none, .mv (.t 1)⟩,
          ⟨(some 56), none, .bin .neq (.t 54) (.t 55)⟩]) (
       .cond (.t 56) (
        .seq (
         .reg none [⟨(some 4), none, .asn (.c (.int .i64 (-1)))⟩]) (
        .ret)) (
        .skip))) (
      .seq (
       .reg none [⟨(some 57), none, .mv (.t 1)⟩,
         ⟨(some 58), none, .bin .add (.t 57) (.c (.int .i64 (1)))⟩,
         ⟨(some 1), none, .asn (.t 58)⟩]) (
      .seq (
       .seq (
        .reg none [⟨(some 59), none, .mv (.t 0)⟩,
          ⟨(some 60), none, .mv (.t 5)⟩,
          ⟨(some 61), none, .iad 10 (.t 59) (.t 60)⟩,
          ⟨(some 62), none, .fad 3 (.t 61)⟩,
          ⟨(some 63), none, .fad 2 (.t 62)⟩,
          ⟨(some 64), none, .ld 1 false (.t 63)⟩,
          ⟨(some 65), none, .mv (.t 1)⟩,
          ⟨(some 66), none, .bin .neq (.t 64) (.t 65)⟩]) (
       .cond (.t 66) (
        .seq (
         .reg none [⟨(some 4), none, .asn (.c (.int .i64 (-1)))⟩]) (
        .ret)) (
        .skip))) (
      .seq (
       .reg none [⟨(some 67), none, .mv (.t 1)⟩,
         ⟨(some 68), none, .bin .add (.t 67) (.c (.int .i64 (1)))⟩,
         ⟨(some 1), none, .asn (.t 68)⟩]) (
      .seq (
       .seq (
        .reg none [⟨(some 69), none, .mv (.t 0)⟩,
          ⟨(some 70), none, .mv (.t 5)⟩,
          ⟨(some 71), none, .iad 10 (.t 69) (.t 70)⟩,
          ⟨(some 72), none, .fad 3 (.t 71)⟩,
          ⟨(some 73), none, .fad 3 (.t 72)⟩,
          ⟨(some 74), none, .ld 1 false (.t 73)⟩,
          ⟨(some 75), none, .mv (.t 1)⟩,
          ⟨(some 76), none, .bin .neq (.t 74) (.t 75)⟩]) (
       .cond (.t 76) (
        .seq (
         .reg none [⟨(some 4), none, .asn (.c (.int .i64 (-1)))⟩]) (
        .ret)) (
        .skip))) (
      .seq (
       .reg none [⟨(some 77), none, .mv (.t 1)⟩,
         ⟨(some 78), none, .bin .add (.t 77) (.c (.int .i64 (1)))⟩,
         ⟨(some 1), none, .asn (.t 78)⟩]) (
      .seq (
       .reg none [⟨(some 79), none, .mv (.t 0)⟩,
         ⟨(some 80), none, .mv (.t 5)⟩,
         ⟨(some 81), none, .iad 10 (.t 79) (.t 80)⟩,
         ⟨(some 82), none, .fad 3 (.t 81)⟩,
         ⟨(some 83), none, .fad 4 (.t 82)⟩,
         ⟨(some 84), none, .ld 1 false (.t 83)⟩,
         ⟨(some 85), none, .mv (.t 1)⟩,
         ⟨(some 86), none, .call 101 [(.t 84), (.t 85)]⟩,
         ⟨(some 1), none, .asn (.t 86)⟩]) (
      .seq (
       .seq (
        .reg none [⟨(some 87), none, .mv (.t 1)⟩,
          ⟨(some 88), none, .bin .lss (.t 87) (.c (.int .i64 (0)))⟩]) (
       .cond (.t 88) (
        .seq (
         .reg none [⟨(some 4), none, .asn (.c (.int .i64 (-1)))⟩]) (
        .ret)) (
        .skip))) (
      .seq (
       .reg none [⟨(some 89), none, .mv (.t 0)⟩,
         ⟨(some 90), none, .mv (.t 5)⟩,
         ⟨(some 91), none, .iad 10 (.t 89) (.t 90)⟩,
         ⟨(some 92), none, .fad 3 (.t 91)⟩,
         ⟨(some 93), none, .fad 5 (.t 92)⟩,
         ⟨(some 94), none, .fad 0 (.t 93)⟩,
         ⟨(some 95), none, .ld 1 false (.t 94)⟩,
         ⟨(some 96), none, .mv (.t 1)⟩,
         ⟨(some 97), none, .call 102 [(.t 95), (.t 96)]⟩,
         ⟨(some 1), none, .asn (.t 97)⟩]) (
      .seq (
       .seq (
        .reg none [⟨(some 98), none, .mv (.t 1)⟩,
          ⟨(some 99), none, .bin .lss (.t 98) (.c (.int .i64 (0)))⟩]) (
       .cond (.t 99) (
        .seq (
         .reg none [⟨(some 4), none, .asn (.c (.int .i64 (-1)))⟩]) (
        .ret)) (
        .skip))) (
      .seq (
       .reg none [⟨(some 100), none, .mv (.t 0)⟩,
         ⟨(some 101), none, .mv (.t 5)⟩,
         ⟨(some 102), none, .iad 10 (.t 100) (.t 101)⟩,
         ⟨(some 103), none, .fad 3 (.t 102)⟩,
         ⟨(some 104), none, .fad 6 (.t 103)⟩,
         ⟨(some 105), none, .ld 1 false (.t 104)⟩,
         ⟨(some 106), none, .mv (.t 1)⟩,
         ⟨(some 107), none, .call 103 [(.t 105), (.t 106)]⟩,
         ⟨(some 1), none, .asn (.t 107)⟩]) (
      .seq (
       .reg none [⟨(some 108), none, .mv (.t 1)⟩,
         ⟨(some 109), none, .bin .lss (.t 108) (.c (.int .i64 (0)))⟩]) (
      .cond (.t 109) (
       .seq (
        .reg none [⟨(some 4), none, .asn (.c (.int .i64 (-1)))⟩]) (
       .ret)) (
       .skip))))))))))))))))))))))) (
    .reg none [⟨(some 10), none, .mv (.t 5)⟩,
      ⟨(some 11), none, .bin .add (.t 10) (.c (.int .i64 (1)))⟩,
      ⟨(some 5), none, .asn (.t 11)⟩])))))) (
 .seq (
  .reg none [⟨(some 110), none, .mv (.t 1)⟩,
    ⟨(some 4), none, .asn (.t 110)⟩]) (
 .ret)))
def r_laws_heldJobS : Nat × List RV := (111, [.t 4])

theorem c_laws_heldJobS : cmpS PT PF PA (Try.prog.funcs[51]?) = some (r_laws_heldJobS.1, r_laws_heldJobS.2, stripK k_laws_heldJobS) := by kernel_rfl

theorem h_heldJobS (xs : List TJob) (k : Int) (hk : 0 ≤ k) (hk2 : k + mJob.nL xs < 2 ^ 50) (hk3 : wL wJob xs < 2 ^ 50) : CallsF Try.prog 51 [.one (.ar false 0 10 ((mJob.mkL xs k).map sJob)), aI k] (aI (k + mJob.nL xs)) := by
  refine Prun c_laws_heldJobS (by simp [r_laws_heldJobS]) (by simp) ?_
  unfold k_laws_heldJobS r_laws_heldJobS
  have hlen := wL_len wJob xs
  simp
  refine awp_loop (fun n σ => ∃ i : Nat, i ≤ xs.length ∧ n = xs.length - i ∧ σ = ⟨[(0, .one (.ar false 0 10 ((mJob.mkL xs k).map sJob))), (1, aI (mJob.pos xs k i)), (5, aI i)], []⟩) (xs.length) ⟨0, by simp [Mk.pos_zero]⟩ ?_
  rintro n σ ⟨i, hi, rfl, rfl⟩
  have hp1 : mJob.pos xs k i ≤ k + mJob.nL xs := Mk.pos_le hi
  have hp2 : k ≤ mJob.pos xs k i := Mk.pos_ge
  by_cases h : i < xs.length
  · have hw := wL_get wJob xs i h
    have hpst : mJob.pos xs k (i + 1) = mJob.pos xs k i + mJob.n xs[i] := Mk.pos_step h
    have hle : mJob.pos xs k (i + 1) ≤ k + mJob.nL xs := Mk.pos_le h
    have hga := Mk.mkL_at (M := mJob) (k := k) h
    generalize hκ : mJob.pos xs k i = p0 at *
    rcases ha : xs[i] with ⟨bticket, bgram, binput, ⟨bruncode, brunpos, brunlook, bruncost, brunslots, ⟨bruntreenodes⟩, brunerrs⟩⟩
    simp only [ha, mJob_n, mJob_wr] at hpst hga
    simp only [ha, wJob, wRun, wTree] at hw
    obtain ⟨p1, hq1⟩ : ∃ p : Int, p = p0 + 1 := ⟨_, rfl⟩
    have ww0 : IntKind.i64.wrap (p0 + 1) = p1 := by rw [wrapI (by omega) (by omega), hq1]
    have nn0 : ¬ p1 < 0 := by omega
    obtain ⟨p2, hq2⟩ : ∃ p : Int, p = p1 + 1 := ⟨_, rfl⟩
    have ww1 : IntKind.i64.wrap (p1 + 1) = p2 := by rw [wrapI (by omega) (by omega), hq2]
    have nn1 : ¬ p2 < 0 := by omega
    obtain ⟨p3, hq3⟩ : ∃ p : Int, p = p2 + (mI.nL binput : Int) := ⟨_, rfl⟩
    have nn2 : ¬ p3 < 0 := by omega
    obtain ⟨p4, hq4⟩ : ∃ p : Int, p = p3 + 1 := ⟨_, rfl⟩
    have ww3 : IntKind.i64.wrap (p3 + 1) = p4 := by rw [wrapI (by omega) (by omega), hq4]
    have nn3 : ¬ p4 < 0 := by omega
    obtain ⟨p5, hq5⟩ : ∃ p : Int, p = p4 + 1 := ⟨_, rfl⟩
    have ww4 : IntKind.i64.wrap (p4 + 1) = p5 := by rw [wrapI (by omega) (by omega), hq5]
    have nn4 : ¬ p5 < 0 := by omega
    obtain ⟨p6, hq6⟩ : ∃ p : Int, p = p5 + 1 := ⟨_, rfl⟩
    have ww5 : IntKind.i64.wrap (p5 + 1) = p6 := by rw [wrapI (by omega) (by omega), hq6]
    have nn5 : ¬ p6 < 0 := by omega
    obtain ⟨p7, hq7⟩ : ∃ p : Int, p = p6 + 1 := ⟨_, rfl⟩
    have ww6 : IntKind.i64.wrap (p6 + 1) = p7 := by rw [wrapI (by omega) (by omega), hq7]
    have nn6 : ¬ p7 < 0 := by omega
    obtain ⟨p8, hq8⟩ : ∃ p : Int, p = p7 + (mSlot.nL brunslots : Int) := ⟨_, rfl⟩
    have nn7 : ¬ p8 < 0 := by omega
    obtain ⟨p9, hq9⟩ : ∃ p : Int, p = p8 + (mNode.nL bruntreenodes : Int) := ⟨_, rfl⟩
    have nn8 : ¬ p9 < 0 := by omega
    obtain ⟨p10, hq10⟩ : ∃ p : Int, p = p9 + (mErr.nL brunerrs : Int) := ⟨_, rfl⟩
    have nn9 : ¬ p10 < 0 := by omega
    simp only [← hq1, ← hq2, ← hq3, ← hq4, ← hq5, ← hq6, ← hq7, ← hq8, ← hq9, ← hq10] at hga
    simp [h, hga, sJob, ww0, nn0, ww1, nn1, nn2, ww3, nn3, ww4, nn4, ww5, nn5, ww6, nn6, nn7, nn8, nn9]
    have hc2 := h_heldIntS binput p2 (by omega) (by omega)
    rw [← hq3] at hc2
    refine callG_F hc2 (by simp) ?_
    simp [h, hga, sJob, ww0, nn0, ww1, nn1, nn2, ww3, nn3, ww4, nn4, ww5, nn5, ww6, nn6, nn7, nn8, nn9]
    have hc7 := h_heldSlotS brunslots p7 (by omega) (by omega) (by omega)
    rw [← hq8] at hc7
    refine callG_F hc7 (by simp) ?_
    simp [h, hga, sJob, ww0, nn0, ww1, nn1, nn2, ww3, nn3, ww4, nn4, ww5, nn5, ww6, nn6, nn7, nn8, nn9]
    have hc8 := h_heldNodeS bruntreenodes p8 (by omega) (by omega) (by omega)
    rw [← hq9] at hc8
    refine callG_F hc8 (by simp) ?_
    simp [h, hga, sJob, ww0, nn0, ww1, nn1, nn2, ww3, nn3, ww4, nn4, ww5, nn5, ww6, nn6, nn7, nn8, nn9]
    have hc9 := h_heldErrS brunerrs p9 (by omega) (by omega) (by omega)
    rw [← hq10] at hc9
    refine callG_F hc9 (by simp) ?_
    simp [h, hga, sJob, ww0, nn0, ww1, nn1, nn2, ww3, nn3, ww4, nn4, ww5, nn5, ww6, nn6, nn7, nn8, nn9]
    refine ⟨xs.length - (i + 1), by omega, i + 1, by omega, rfl, ?_⟩
    rw [wrapI (by omega) (by omega)]
    simp; omega
  · have : i = xs.length := by omega
    subst this
    simp [Mk.pos_all]
end Go.Am
-- Outcome_hd
namespace Go.Am
open Go.Proofs
set_option maxHeartbeats 4000000
set_option maxRecDepth 100000
-- 33 loop.example/g00485/laws.heldOutcomeS
def k_laws_heldOutcomeS : K :=
 .seq (
  .reg none [⟨(some 4), none, .asn (.c (.int .i64 (0)))⟩]) (
 .seq (
  .seq (
   .reg none [⟨(some 5), none, .asn (.c (.int .i64 (0)))⟩]) (
  .block 0 (
   .loop (some ([0, 1, 5], [0, 1, 5, 1000])) (
    .seq (
     .seq (
      .reg none [⟨(some 6), none, .mv (.t 5)⟩,
        ⟨(some 7), none, .mv (.t 0)⟩,
        ⟨(some 8), none, .len (.t 7)⟩,
        ⟨(some 9), none, .bin .lss (.t 6) (.t 8)⟩]) (
     .cond (.t 9) (
      .skip) (
      .exit 0))) (
    .seq (
     .block 1 (
      .seq (
       .seq (
        .reg none [⟨(some 12), none, .mv (.t 0)⟩,
          ⟨(some 13), none, .mv (.t 5)⟩,
          ⟨(some 14), none, .iad 3 (.t 12) (.t 13)⟩,
          ⟨(some 15), none, .fad 0 (.t 14)⟩,
          ⟨(some 16), none, .ld 1 false (.t 15)⟩,
          ⟨(some 17), none, .mv (.t 1)⟩,
          ⟨(some 18), none, .bin .neq (.t 16) (.t 17)⟩]) (
       .cond (.t 18) (
        .seq (
         .reg none [⟨(some 4), none, .asn (.c (.int .i64 (-1)))⟩]) (
        .ret)) (
        .skip))) (
      .seq (
       .reg none [⟨(some 19), none, .mv (.t 1)⟩,
         ⟨(some 20), none, .bin .add (.t 19) (.c (.int .i64 (1)))⟩,
         ⟨(some 1), none, .asn (.t 20)⟩]) (
      .seq (
       .seq (
        .reg none [⟨(some 21), none, .mv (.t 0)⟩,
          ⟨(some 22), none, .mv (.t 5)⟩,
          ⟨(some 23), none, .iad 3 (.t 21) (.t 22)⟩,
          ⟨(some 24), none, .fad 1 (.t 23)⟩,
          ⟨(some 25), none, .ld 1 false (.t 24)⟩,
          ⟨(some 26), none, .mv (.t 1)⟩,
          ⟨(some 27), none, .bin .neq (.t 25) (.t 26)⟩]) (
       .cond (.t 27) (
        .seq (
         .reg none [⟨(some 4), none, .asn (.c (.int .i64 (-1)))⟩]) (
        .ret)) (
        .skip))) (
      .seq (
       .reg none [⟨(some 28), none, .mv (.t 1)⟩,
         ⟨(some 29), none, .bin .add (.t 28) (.c (.int .i64 (1)))⟩,
         ⟨(some 1), none, .asn (.t 29)⟩]) (
      .seq (
       .seq (
        .drw none 8 [⟨(some 30), none, .mv (.t 0)⟩,
          ⟨(some 31), none, .mv (.t 5)⟩,
          ⟨(some 32), none, .iad 3 (.t 30) (.t 31)⟩,
          ⟨(some 33), none, .fad 2 (.t 32)⟩,
          ⟨(some 34), none, .ld 1 false (.t 33)⟩,
          ⟨(some 35), none, .mv (.t 1)⟩,
          ⟨(some 36), none, .call 72 [(.t 35)]⟩,
          ⟨(some 37), none, .bin .neq (.t 34) (.t 36)⟩]) (
       .cond (.t 37) (
        .seq (
         .reg none [⟨(some 4), none, .asn (.c (.int .i64 (-1)))⟩]) (
        .ret)) (
        .skip))) (
      .reg none [⟨(some 38), none, .mv (.t 1)⟩,
        ⟨(some 39), none, .bin .add (.t 38) (.c (.int .i64 (1)))⟩,
        ⟨(some 1), none, .asn (.t 39)⟩]))))))) (
    .reg none [⟨(some 10), none, .mv (.t 5)⟩,
      ⟨(some 11), none, .bin .add (.t 10) (.c (.int .i64 (1)))⟩,
      ⟨(some 5), none, .asn (.t 11)⟩])))))) (
 .seq (
  .reg none [⟨(some 40), none, .mv (.t 1)⟩,
    ⟨(some 4), none, .asn (.t 40)⟩]) (
 .ret)))
def r_laws_heldOutcomeS : Nat × List RV := (41, [.t 4])

theorem c_laws_heldOutcomeS : cmpS PT PF PA (Try.prog.funcs[33]?) = some (r_laws_heldOutcomeS.1, r_laws_heldOutcomeS.2, stripK k_laws_heldOutcomeS) := by kernel_rfl

theorem h_heldOutcomeS (xs : List TOutcome) (k : Int) (hk : 0 ≤ k) (hk2 : k + mOutcome.nL xs < 2 ^ 50) (hk3 : wL wOutcome xs < 2 ^ 50) : CallsF Try.prog 33 [.one (.ar false 0 3 ((mOutcome.mkL xs k).map sOutcome)), aI k] (aI (k + mOutcome.nL xs)) := by
  refine Prun c_laws_heldOutcomeS (by simp [r_laws_heldOutcomeS]) (by simp) ?_
  unfold k_laws_heldOutcomeS r_laws_heldOutcomeS
  have hlen := wL_len wOutcome xs
  simp
  refine awp_loop (fun n σ => ∃ i : Nat, i ≤ xs.length ∧ n = xs.length - i ∧ σ = ⟨[(0, .one (.ar false 0 3 ((mOutcome.mkL xs k).map sOutcome))), (1, aI (mOutcome.pos xs k i)), (5, aI i)], []⟩) (xs.length) ⟨0, by simp [Mk.pos_zero]⟩ ?_
  rintro n σ ⟨i, hi, rfl, rfl⟩
  have hp1 : mOutcome.pos xs k i ≤ k + mOutcome.nL xs := Mk.pos_le hi
  have hp2 : k ≤ mOutcome.pos xs k i := Mk.pos_ge
  by_cases h : i < xs.length
  · have hw := wL_get wOutcome xs i h
    have hpst : mOutcome.pos xs k (i + 1) = mOutcome.pos xs k i + mOutcome.n xs[i] := Mk.pos_step h
    have hle : mOutcome.pos xs k (i + 1) ≤ k + mOutcome.nL xs := Mk.pos_le h
    have hga := Mk.mkL_at (M := mOutcome) (k := k) h
    generalize hκ : mOutcome.pos xs k i = p0 at *
    rcases ha : xs[i] with ⟨bticket, bcode, btext⟩
    simp only [ha, mOutcome_n, mOutcome_wr] at hpst hga
    simp only [ha, wOutcome] at hw
    obtain ⟨p1, hq1⟩ : ∃ p : Int, p = p0 + 1 := ⟨_, rfl⟩
    have ww0 : IntKind.i64.wrap (p0 + 1) = p1 := by rw [wrapI (by omega) (by omega), hq1]
    have nn0 : ¬ p1 < 0 := by omega
    obtain ⟨p2, hq2⟩ : ∃ p : Int, p = p1 + 1 := ⟨_, rfl⟩
    have ww1 : IntKind.i64.wrap (p1 + 1) = p2 := by rw [wrapI (by omega) (by omega), hq2]
    have nn1 : ¬ p2 < 0 := by omega
    obtain ⟨p3, hq3⟩ : ∃ p : Int, p = p2 + 1 := ⟨_, rfl⟩
    have ww2 : IntKind.i64.wrap (p2 + 1) = p3 := by rw [wrapI (by omega) (by omega), hq3]
    have nn2 : ¬ p3 < 0 := by omega
    simp only [← hq1, ← hq2, ← hq3] at hga
    simp [h, hga, sOutcome, ww0, nn0, ww1, nn1, ww2, nn2]
    first | refine callG_F (h_markText p2 (by omega) (by omega)) (by simp) ?_ | refine ⟨_, by simp, h_markText p2 (by omega) (by omega), ?_⟩
    simp [h, hga, sOutcome, ww0, nn0, ww1, nn1, ww2, nn2]
    refine ⟨xs.length - (i + 1), by omega, i + 1, by omega, rfl, ?_⟩
    rw [wrapI (by omega) (by omega)]
    simp; omega
  · have : i = xs.length := by omega
    subst this
    simp [Mk.pos_all]
end Go.Am
-- Tenant_hd1
namespace Go.Am
open Go.Proofs
set_option maxHeartbeats 4000000
set_option maxRecDepth 100000
-- 14 loop.example/g00485/laws.heldTenant
def k_laws_heldTenant : K :=
 .seq (
  .reg none [⟨(some 2), none, .box 25 10 (.t 0)⟩,
    ⟨(some 4), none, .asn (.c (.int .i64 (0)))⟩]) (
 .seq (
  .reg none [⟨(some 5), none, .fad 8 (.t 2)⟩,
    ⟨(some 6), none, .ld 1 false (.t 5)⟩,
    ⟨(some 7), none, .mv (.t 1)⟩,
    ⟨(some 8), none, .call 51 [(.t 6), (.t 7)]⟩,
    ⟨(some 1), none, .asn (.t 8)⟩]) (
 .seq (
  .seq (
   .reg none [⟨(some 9), none, .mv (.t 1)⟩,
     ⟨(some 10), none, .bin .lss (.t 9) (.c (.int .i64 (0)))⟩]) (
  .cond (.t 10) (
   .seq (
    .reg none [⟨(some 4), none, .asn (.c (.int .i64 (-1)))⟩]) (
   .ret)) (
   .skip))) (
 .seq (
  .reg none [⟨(some 11), none, .fad 9 (.t 2)⟩,
    ⟨(some 12), none, .ld 1 false (.t 11)⟩,
    ⟨(some 13), none, .mv (.t 1)⟩,
    ⟨(some 14), none, .call 33 [(.t 12), (.t 13)]⟩,
    ⟨(some 1), none, .asn (.t 14)⟩]) (
 .seq (
  .seq (
   .reg none [⟨(some 15), none, .mv (.t 1)⟩,
     ⟨(some 16), none, .bin .lss (.t 15) (.c (.int .i64 (0)))⟩]) (
  .cond (.t 16) (
   .seq (
    .reg none [⟨(some 4), none, .asn (.c (.int .i64 (-1)))⟩]) (
   .ret)) (
   .skip))) (
 .seq (
  .reg none [⟨(some 17), none, .mv (.t 1)⟩,
    ⟨(some 4), none, .asn (.t 17)⟩]) (
 .ret))))))
def r_laws_heldTenant : Nat × List RV := (18, [.t 4])

theorem c_laws_heldTenant : cmpS PT PF PA (Try.prog.funcs[14]?) = some (r_laws_heldTenant.1, r_laws_heldTenant.2, stripK k_laws_heldTenant) := by kernel_rfl

theorem h_heldTenant (a : TTenant) (k : Int) (hk : 0 ≤ k) (hk2 : k + uTenant.n a < 2 ^ 50) (hk3 : wTenant a < 2 ^ 50) : CallsF Try.prog 14 [.agg (sTenant (uTenant.wr a k)), aI k] (aI (k + uTenant.n a)) := by
  refine Prun c_laws_heldTenant (by simp [r_laws_heldTenant]) (by simp) ?_
  unfold k_laws_heldTenant r_laws_heldTenant
  simp only [uTenant_n, wTenant] at hk2 hk3
  obtain ⟨p0, hq0⟩ : ∃ p : Int, p = k + (mJob.nL a.queue : Int) := ⟨_, rfl⟩
  have nn0 : ¬ p0 < 0 := by omega
  obtain ⟨p1, hq1⟩ : ∃ p : Int, p = p0 + (mOutcome.nL a.out : Int) := ⟨_, rfl⟩
  have nn1 : ¬ p1 < 0 := by omega
  simp only [uTenant_wr, ← hq0, ← hq1]
  simp [sTenant, nn0, nn1]
  have hc0 := h_heldJobS a.queue k (by omega) (by omega) (by omega)
  simp only [← hq0] at hc0
  refine callG_F hc0 (by simp) ?_
  simp [nn0, nn1]
  have hc1 := h_heldOutcomeS a.out p0 (by omega) (by omega) (by omega)
  simp only [← hq1] at hc1
  refine callG_F hc1 (by simp) ?_
  simp [nn0, nn1]
  try omega
end Go.Am
-- L_TenantNew
namespace Go.Am
open Go.Proofs
set_option maxHeartbeats 4000000
set_option maxRecDepth 100000
-- 3 loop.example/g00485/laws.FnExactTenantNew
def k_laws_FnExactTenantNew : K :=
 .seq (
  .reg none [⟨(some 6), none, .asn (.c (.bool false))⟩]) (
 .seq (
  .reg none [⟨(some 16), none, .mv (.t 0)⟩,
    ⟨(some 17), none, .mv (.t 1)⟩,
    ⟨(some 18), none, .mv (.t 2)⟩,
    ⟨(some 19), none, .call 10 [(.t 16), (.t 17), (.t 18)]⟩,
    ⟨(some 15), none, .mv (.t 19)⟩,
    ⟨(some 20), none, .ext 0 (.t 15)⟩,
    ⟨(some 21), none, .ext 1 (.t 15)⟩,
    ⟨(some 7), none, .alc 25 10 [(.int .i64 (0)), (.int .i64 (0)), (.int .i64 (0)), (.int .i64 (0)), (.int .i64 (0)), (.int .i64 (0)), (.int .i64 (0)), (.int .i64 (0)), (.ar true 133 10 []), (.ar true 102 3 [])]⟩,
    ⟨none, none, .st 10 false (.t 7) (.t 20)⟩,
    ⟨(some 8), none, .asn (.t 21)⟩]) (
 .seq (
  .reg none [⟨(some 23), none, .mv (.t 0)⟩,
    ⟨(some 24), none, .mv (.t 1)⟩,
    ⟨(some 25), none, .mv (.t 2)⟩,
    ⟨(some 26), none, .call 11 [(.t 23), (.t 24), (.t 25)]⟩,
    ⟨(some 22), none, .mv (.t 26)⟩,
    ⟨(some 27), none, .ext 0 (.t 22)⟩,
    ⟨(some 28), none, .ext 1 (.t 22)⟩,
    ⟨(some 9), none, .alc 25 10 [(.int .i64 (0)), (.int .i64 (0)), (.int .i64 (0)), (.int .i64 (0)), (.int .i64 (0)), (.int .i64 (0)), (.int .i64 (0)), (.int .i64 (0)), (.ar true 133 10 []), (.ar true 102 3 [])]⟩,
    ⟨none, none, .st 10 false (.t 9) (.t 27)⟩,
    ⟨(some 10), none, .asn (.t 28)⟩]) (
 .seq (
  .seq (
   .reg none [⟨(some 29), none, .ld 10 true (.t 9)⟩,
     ⟨(some 30), none, .ld 10 true (.t 7)⟩,
     ⟨(some 31), none, .call 12 [(.t 29), (.t 30)]⟩,
     ⟨(some 32), none, .not (.t 31)⟩,
     ⟨(some 33), none, .mv (.t 32)⟩,
     ⟨(some 34), (some (33, false)), .mv (.t 10)⟩,
     ⟨(some 35), (some (33, false)), .mv (.t 8)⟩,
     ⟨(some 36), (some (33, false)), .beq true (.t 34) (.t 35)⟩,
     ⟨(some 37), none, .pick (.t 33) (.c (.bool true)) (.t 36)⟩]) (
  .cond (.t 37) (
   .seq (
    .reg none [⟨(some 6), none, .asn (.c (.bool false))⟩]) (
   .ret)) (
   .skip))) (
 .seq (
  .reg none [⟨(some 11), none, .asn (.c (.int .i64 (1)))⟩]) (
 .seq (
  .reg none [⟨(some 38), none, .ld 10 true (.t 9)⟩,
    ⟨(some 39), none, .mv (.t 11)⟩,
    ⟨(some 40), none, .callr 13 (.t 38) [(.t 38), (.t 39)]⟩,
    ⟨(some 11), none, .asn (.t 40)⟩]) (
 .seq (
  .reg none [⟨(some 12), none, .asn (.c (.int .i64 (1)))⟩]) (
 .seq (
  .reg none [⟨(some 41), none, .ld 10 true (.t 9)⟩,
    ⟨(some 42), none, .mv (.t 12)⟩,
    ⟨(some 43), none, .call 14 [(.t 41), (.t 42)]⟩,
    ⟨(some 12), none, .asn (.t 43)⟩]) (
 .seq (
  .seq (
   .reg none [⟨(some 44), none, .mv (.t 12)⟩,
     ⟨(some 45), none, .bin .lss (.t 44) (.c (.int .i64 (0)))⟩]) (
  .cond (.t 45) (
   .seq (
    .reg none [⟨(some 6), none, .asn (.c (.bool false))⟩]) (
   .ret)) (
   .skip))) (
 .seq (
  .seq (
   .reg none [⟨(some 46), none, .mv (.t 12)⟩,
     ⟨(some 47), none, .mv (.t 11)⟩,
     ⟨(some 48), none, .bin .neq (.t 46) (.t 47)⟩]) (
  .cond (.t 48) (
   .seq (
    .reg none [⟨(some 6), none, .asn (.c (.bool false))⟩]) (
   .ret)) (
   .skip))) (
 .seq (
  .reg none [⟨(some 50), none, .mv (.t 0)⟩,
    ⟨(some 51), none, .mv (.t 1)⟩,
    ⟨(some 52), none, .mv (.t 2)⟩,
    ⟨(some 53), none, .call 11 [(.t 50), (.t 51), (.t 52)]⟩,
    ⟨(some 49), none, .mv (.t 53)⟩,
    ⟨(some 54), none, .ext 0 (.t 49)⟩,
    ⟨(some 55), none, .ext 1 (.t 49)⟩,
    ⟨(some 13), none, .alc 25 10 [(.int .i64 (0)), (.int .i64 (0)), (.int .i64 (0)), (.int .i64 (0)), (.int .i64 (0)), (.int .i64 (0)), (.int .i64 (0)), (.int .i64 (0)), (.ar true 133 10 []), (.ar true 102 3 [])]⟩,
    ⟨none, none, .st 10 false (.t 13) (.t 54)⟩,
    ⟨(some 14), none, .asn (.t 55)⟩]) (
 .seq (
  .seq (
   .reg none [⟨(some 56), none, .ld 10 true (.t 13)⟩,
     ⟨(some 57), none, .ld 10 true (.t 7)⟩,
     ⟨(some 58), none, .call 12 [(.t 56), (.t 57)]⟩,
     ⟨(some 59), none, .not (.t 58)⟩,
     ⟨(some 60), none, .mv (.t 59)⟩,
     ⟨(some 61), (some (60, false)), .mv (.t 14)⟩,
     ⟨(some 62), (some (60, false)), .mv (.t 8)⟩,
     ⟨(some 63), (some (60, false)), .beq true (.t 61) (.t 62)⟩,
     ⟨(some 64), none, .pick (.t 60) (.c (.bool true)) (.t 63)⟩]) (
  .cond (.t 64) (
   .seq (
    .reg none [⟨(some 6), none, .asn (.c (.bool false))⟩]) (
   .ret)) (
   .skip))) (
 .seq (
  .reg none [⟨(some 12), none, .asn (.c (.int .i64 (1)))⟩]) (
 .seq (
  .reg none [⟨(some 65), none, .ld 10 true (.t 9)⟩,
    ⟨(some 66), none, .mv (.t 12)⟩,
    ⟨(some 67), none, .call 14 [(.t 65), (.t 66)]⟩,
    ⟨(some 12), none, .asn (.t 67)⟩]) (
 .seq (
  .seq (
   .reg none [⟨(some 68), none, .mv (.t 12)⟩,
     ⟨(some 69), none, .bin .lss (.t 68) (.c (.int .i64 (0)))⟩]) (
  .cond (.t 69) (
   .seq (
    .reg none [⟨(some 6), none, .asn (.c (.bool false))⟩]) (
   .ret)) (
   .skip))) (
 .seq (
  .seq (
   .reg none [⟨(some 70), none, .mv (.t 12)⟩,
     ⟨(some 71), none, .mv (.t 11)⟩,
     ⟨(some 72), none, .bin .neq (.t 70) (.t 71)⟩]) (
  .cond (.t 72) (
   .seq (
    .reg none [⟨(some 6), none, .asn (.c (.bool false))⟩]) (
   .ret)) (
   .skip))) (
 .seq (
  .reg none [⟨(some 6), none, .asn (.c (.bool true))⟩]) (
 .ret)))))))))))))))))
def r_laws_FnExactTenantNew : Nat × List RV := (73, [.t 6])

theorem c_laws_FnExactTenantNew : cmpS PT PF PA (Try.prog.funcs[3]?) = some (r_laws_FnExactTenantNew.1, r_laws_FnExactTenantNew.2, stripK k_laws_FnExactTenantNew) := by kernel_rfl

set_option maxRecDepth 100000 in
theorem h_law_TenantNew (q c b : Int) : CallsF Try.prog 3 [aI q, aI c, aI b] (aB true) := by
  refine Prun c_laws_FnExactTenantNew (by simp [r_laws_FnExactTenantNew]) (by simp) ?_
  unfold k_laws_FnExactTenantNew r_laws_FnExactTenantNew
  obtain ⟨st, hst⟩ : ∃ st, st = tenantNew q c b := ⟨_, rfl⟩
  have hl : st.queue = [] ∧ st.out = [] := by rw [hst]; unfold tenantNew; split <;> exact ⟨rfl, rfl⟩
  have hw : wTenant st = 0 := by simp [wTenant, hl.1, hl.2, wL]
  have hu : uTenant.n st = 0 := by simp [hl.1, hl.2, Mk.nL]
  have hs := h_spec_TenantNew q c b
  have hi := h_impl_TenantNew q c b
  rw [← hst] at hs hi
  have he := h_eqTenant st (by omega)
  have hm := h_markTenant st 1 (by omega) (by omega) (by omega)
  have hh := h_heldTenant st 1 (by omega) (by omega) (by omega)
  rw [hu] at hm hh
  simp
  refine callG_F hs (by simp) ?_
  simp [rTenant]
  refine callG_F hi (by simp) ?_
  simp [rTenant]
  refine callG_F he (by simp) ?_
  simp
  refine callMG_F (os' := [⟨133, 10, (uTenant.wr st 1).queue.map rJob⟩, ⟨102, 3, (uTenant.wr st 1).out.map rOutcome⟩]) hm (by simp [same]) (by simp) ?_
  simp
  refine callG_F hh (by simp) ?_
  simp
  refine callG_F hi (by simp) ?_
  simp [rTenant]
  refine callG_F he (by simp) ?_
  simp
  refine callG_F hh (by simp) ?_
  simp
end Go.Am
-- B_FnExactTenantNew
namespace Go.Am
open Go.Proofs
set_option maxHeartbeats 4000000
set_option maxRecDepth 100000
open Go.ChangeShapes Go.WideShapes Go.ChangeAt Go.RowKit Go.Proofs.Ytfcbminodkjklaa
theorem own_FnExactTenantNew : ownKnob Try.prog.godebug = none := by kernel_rfl
theorem laidOut_FnExactTenantNew : laidOutB Try.prog = true := by kernel_rfl
set_option maxRecDepth 100000 in
theorem lifted_FnExactTenantNew (os : Os) (started : os.Started) (H : Type) (enc : TypeId × Value → H) :
    ReturnsInHanded {} Try.checked os 3 .any (Rows.fnExactTenantNewSpec.pre6 enc Try.prog Try.f3 Rows.fnExactTenantNewRow.domain false) (Rows.fnExactTenantNewSpec.post enc Try.prog Try.f3 false true false false) := by
  refine returnsInHanded_of_change (C := Try.checked) own_FnExactTenantNew started (by kernel_rfl) Try.func3
    (ChangeSpec.witness6 (enc := enc) (C := Try.checked) false ⟨#[], #[.int .i64 0, .int .i64 0, .int .i64 0], []⟩ 8 (by kernel_rfl) (by kernel_rfl) (by kernel_rfl) (by kernel_rfl)) ?_
  intro W base args ds gs before hval0 hW hcnd _
  have hval : ∀ (j : Nat) t v, Try.f3.params[j]? = some t → args[j]? = some v → Value.okWide Try.prog W .any base t v := hval0
  have hW' := hW
  obtain ⟨p, q, hA0, hV, rfl, hfz, hnd⟩ := hW
  have hA : DataW.TrodAll enc Try.prog W 0 (fun _ => true) true Try.f3.params.toList args.toList ds p := hA0
  rw [Try.params3] at hA hval
  obtain ⟨v0, v1, v2, d0, d1, d2, p0, p1, p2, rfl, rfl, rfl, h0, h1, h2⟩ := trodAll_three hA
  obtain ⟨rfl, rfl⟩ := trodVars_none hV
  have hV0 : ∀ (W' : World) (sp : Nat → Bool), DataW.TrodVars enc Try.checked.prog W' sp Rows.fnExactTenantNewSpec.vars ([] : List (DataW H)) [] := fun _ _ => by first | rfl | trivial | exact ⟨rfl, rfl⟩ | exact ⟨_, rfl, rfl⟩
  obtain ⟨a0, rfl, rfl, rfl, wa0⟩ := open_int Try.underlying3 (hval 0 3 v0 rfl rfl) h0
  obtain ⟨a1, rfl, rfl, rfl, wa1⟩ := open_int Try.underlying3 (hval 1 3 v1 rfl rfl) h1
  obtain ⟨a2, rfl, rfl, rfl, wa2⟩ := open_int Try.underlying3 (hval 2 3 v2 rfl rfl) h2
  clear hA0 hval0
  simp only [List.append_nil] at hW'
  refine (below_of (h_law_TenantNew a0 a1 a2) (fun _ _ _ _ h => h.1) W [.int .i64 a0, .int .i64 a1, .int .i64 a2] (by simp [aI, A.ref, C.ref, refCs]) ⟨_, _, fz, fz, rfl, (add_fz _).symm, ⟨rfl, rfl⟩, ⟨_, _, fz, fz, rfl, (add_fz _).symm, ⟨rfl, rfl⟩, ⟨_, _, fz, fz, rfl, (add_fz _).symm, ⟨rfl, rfl⟩, ⟨rfl, rfl⟩⟩⟩⟩ rfl).mono fun e W' ⟨he, hw⟩ => ?_
  subst he
  exact ⟨_, rfl, [.lit (.int .i64 a0), .lit (.int .i64 a1), .lit (.int .i64 a2)], [], _, [], _, [], by simpa using hW', trodAll_mk1 (shut_bool Try.underlying4 true), trodAll_mk3 (shut_int Try.underlying3 wa0) (shut_int Try.underlying3 wa1) (shut_int Try.underlying3 wa2), hV0 _ _, hw.frame _, fun h => by cases h⟩
theorem holds_FnExactTenantNew : Rows.FnExactTenantNewSaid :=
  OpenClaim.holds_of_wide 3 Try.f3 rfl rfl rfl rfl rfl rfl rfl ⟨rfl, rfl, rfl, rfl, rfl⟩ rfl rfl rfl rfl rfl (by kernel_rfl) Try.func3 (by kernel_rfl)
    (of_decide_eq_true (by kernel_rfl)) (by unfold Func.isWrapper; first | (rw [if_pos (by decide +kernel)]; kernel_rfl) | (rw [if_neg (by decide +kernel)]; exact ⟨rfl, rfl⟩))
    (fun os started H enc _ => lifted_FnExactTenantNew os started H enc)
#print axioms holds_FnExactTenantNew
end Go.Am
namespace Go.Proofs.Ytfcbminodkjklaa
theorem fnExactTenantNew_holds : Rows.FnExactTenantNewSaid := Go.Am.holds_FnExactTenantNew
end Go.Proofs.Ytfcbminodkjklaa
