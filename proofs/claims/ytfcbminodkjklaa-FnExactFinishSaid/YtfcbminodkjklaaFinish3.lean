/- PROVED: The program's Finish returns what the reference's returns, for all arguments. -/
import Derived.Test.YtfcbminodkjklaaFinish2
import Derived.Test.YtfcbminodkjklaaRows
import Derived.ProofKit
set_option linter.unusedVariables false
set_option linter.unusedSimpArgs false
-- Node_hd
namespace Go.Am
open Go.Proofs
set_option maxHeartbeats 4000000
set_option maxRecDepth 100000
attribute [-simp] rErr_len sErr_len shr_rErr shr_sErr shrs_rErr shrs_sErr noSh_rErr mErr_wr mErr_n rSlot_len sSlot_len shr_rSlot shr_sSlot shrs_rSlot shrs_sSlot noSh_rSlot mSlot_wr mSlot_n rTree_len sTree_len shr_rTree shr_sTree shrs_rTree shrs_sTree noSh_rTree mTree_wr mTree_n rRun_len sRun_len shr_rRun shr_sRun shrs_rRun shrs_sRun noSh_rRun mRun_wr mRun_n rJob_len sJob_len shr_rJob shr_sJob shrs_rJob shrs_sJob noSh_rJob mJob_wr mJob_n rOutcome_len sOutcome_len shr_rOutcome shr_sOutcome shrs_rOutcome shrs_sOutcome noSh_rOutcome mOutcome_wr mOutcome_n rTenant_len sTenant_len shr_rTenant shr_sTenant shrs_rTenant shrs_sTenant noSh_rTenant mTenant_wr mTenant_n map_rs_Slot map_rs_Err map_rs_Outcome uTenant_wr uTenant_n rConf_len sConf_len shr_rConf shr_sConf shrs_rConf shrs_sConf noSh_rConf mConf_wr mConf_n rLine_len sLine_len shr_rLine shr_sLine shrs_rLine shrs_sLine noSh_rLine mLine_wr mLine_n rStore_len sStore_len shr_rStore shr_sStore shrs_rStore shrs_sStore noSh_rStore mStore_wr mStore_n uStore_wr uStore_n noSh_sOutcome noSh_sSlot noSh_sErr noSh_tenant
-- 102 loop.example/g00485/laws.heldNodeS
def k_laws_heldNodeS : K :=
 .seq (
  .reg none [⟨(some 4), none, .asn (.c (.int .i64 (0)))⟩]) (
 .seq (
  .seq (
   .reg none [⟨(some 5), none, .asn (.c (.int .i64 (0)))⟩]) (
  .block 0 (
   .loop (some ([0, 1, 5], [0, 1, 5, 1000])) (
    .seq (
     .seq (
      .reg none [⟨(some 6), none, .mv (.t 5)⟩,
        ⟨(some 7), none, .mv (.t 0)⟩,
        ⟨(some 8), none, .len (.t 7)⟩,
        ⟨(some 9), none, .bin .lss (.t 6) (.t 8)⟩]) (
     .cond (.t 9) (
      .skip) (
      .exit 0))) (
    .seq (
     .block 1 (
      .seq (
       .seq (
        .reg none [⟨(some 12), none, .mv (.t 0)⟩,
          ⟨(some 13), none, .mv (.t 5)⟩,
          ⟨(some 14), none, .iad 5 (.t 12) (.t 13)⟩,
          ⟨(some 15), none, .fad 0 (.t 14)⟩,
          ⟨(some 16), none, .ld 1 false (.t 15)⟩,
          ⟨(some 17), none, .mv (.t 1)⟩,
          ⟨(some 18), none, .bin .neq (.t 16) (.t 17)⟩]) (
       .cond (.t 18) (
        .seq (
         .reg none [⟨(some 4), none, .asn (.c (.int .i64 (-1)))⟩]) (
        .ret)) (
        .skip))) (
      .seq (
       .reg none [⟨(some 19), none, .mv (.t 1)⟩,
         ⟨(some 20), none, .bin .add (.t 19) (.c (.int .i64 (1)))⟩,
         ⟨(some 1), none, .asn (.t 20)⟩]) (
      .seq (
       .seq (
        .reg none [⟨(some 21), none, .mv (.t 0)⟩,
          ⟨(some 22), none, .mv (.t 5)⟩,
          ⟨(some 23), none, .iad 5 (.t 21) (.t 22)⟩,
          ⟨(some 24), none, .fad 1 (.t 23)⟩,
          ⟨(some 25), none, .ld 1 false (.t 24)⟩,
          ⟨(some 26), none, .mv (.t 1)⟩,
          ⟨(some 27), none, .bin .neq (.t 25) (.t 26)⟩]) (
       .cond (.t 27) (
        .seq (
         .reg none [⟨(some 4), none, .asn (.c (.int .i64 (-1)))⟩]) (
        .ret)) (
        .skip))) (
      .seq (
       .reg none [⟨(some 28), none, .mv (.t 1)⟩,
         ⟨(some 29), none, .bin .add (.t 28) (.c (.int .i64 (1)))⟩,
         ⟨(some 1), none, .asn (.t 29)⟩]) (
      .seq (
       .seq (
        .reg none [⟨(some 30), none, .mv (.t 0)⟩,
          ⟨(some 31), none, .mv (.t 5)⟩,
          ⟨(some 32), none, .iad 5 (.t 30) (.t 31)⟩,
          ⟨(some 33), none, .fad 2 (.t 32)⟩,
          ⟨(some 34), none, .ld 1 false (.t 33)⟩,
          ⟨(some 35), none, .mv (.t 1)⟩,
          ⟨(some 36), none, .bin .neq (.t 34) (.t 35)⟩]) (
       .cond (.t 36) (
        .seq (
         .reg none [⟨(some 4), none, .asn (.c (.int .i64 (-1)))⟩]) (
        .ret)) (
        .skip))) (
      .seq (
       .reg none [⟨(some 37), none, .mv (.t 1)⟩,
         ⟨(some 38), none, .bin .add (.t 37) (.c (.int .i64 (1)))⟩,
         ⟨(some 1), none, .asn (.t 38)⟩]) (
      .seq (
       .seq (
        .reg none [⟨(some 39), none, .mv (.t 0)⟩,
          ⟨(some 40), none, .mv (.t 5)⟩,
          ⟨(some 41), none, .iad 5 (.t 39) (.t 40)⟩,
          ⟨(some 42), none, .fad 3 (.t 41)⟩,
          ⟨(some 43), none, .ld 1 false (.t 42)⟩,
          ⟨(some 44), none, .mv (.t 1)⟩,
          ⟨(some 45), none, .bin .neq (.t 43) (.t 44)⟩]) (
       .cond (.t 45) (
        .seq (
         .reg none [⟨(some 4), none, .asn (.c (.int .i64 (-1)))⟩]) (
        .ret)) (
        .skip))) (
      .seq (
       .reg none [⟨(some 46), none, .mv (.t 1)⟩,
         ⟨(some 47), none, .bin .add (.t 46) (.c (.int .i64 (1)))⟩,
         ⟨(some 1), none, .asn (.t 47)⟩]) (
      .seq (
       .reg none [⟨(some 48), none, .mv (.t 0)⟩,
         ⟨(some 49), none, .mv (.t 5)⟩,
         ⟨(some 50), none, .iad 5 (.t 48) (.t 49)⟩,
         ⟨(some 51), none, .fad 4 (.t 50)⟩,
         ⟨(some 52), none, .ld 1 false (.t 51)⟩,
         ⟨(some 53), none, .mv (.t 1)⟩,
         ⟨(some 54), none, .call 63 [(.t 52), (.t 53)]⟩,
         ⟨(some 1), none, .asn (.t 54)⟩]) (
      .seq (
       .reg none [⟨(some 55), none, .mv (.t 1)⟩,
         ⟨(some 56), none, .bin .lss (.t 55) (.c (.int .i64 (0)))⟩]) (
      .cond (.t 56) (
       .seq (
        .reg none [⟨(some 4), none, .asn (.c (.int .i64 (-1)))⟩]) (
       .ret)) (
       .skip))))))))))))) (
    .reg none [⟨(some 10), none, .mv (.t 5)⟩,
      ⟨(some 11), none, .bin .add (.t 10) (.c (.int .i64 (1)))⟩,
      ⟨(some 5), none, .asn (.t 11)⟩])))))) (
 .seq (
  .reg none [⟨(some 57), none, .mv (.t 1)⟩,
    ⟨(some 4), none, .asn (.t 57)⟩]) (
 .ret)))
def r_laws_heldNodeS : Nat × List RV := (58, [.t 4])

theorem c_laws_heldNodeS : cmpS PT PF PA (Try.prog.funcs[102]?) = some (r_laws_heldNodeS.1, r_laws_heldNodeS.2, stripK k_laws_heldNodeS) := by kernel_rfl

theorem h_heldNodeS (xs : List TNode) (k : Int) (hk : 0 ≤ k) (hk2 : k + mNode.nL xs < 2 ^ 50) (hk3 : wL wNode xs < 2 ^ 50) : CallsF Try.prog 102 [.one (.ar false 0 5 ((mNode.mkL xs k).map sNode)), aI k] (aI (k + mNode.nL xs)) := by
  refine Prun c_laws_heldNodeS (by simp [r_laws_heldNodeS]) (by simp) ?_
  unfold k_laws_heldNodeS r_laws_heldNodeS
  have hlen := wL_len wNode xs
  simp
  refine awp_loop (fun n σ => ∃ i : Nat, i ≤ xs.length ∧ n = xs.length - i ∧ σ = ⟨[(0, .one (.ar false 0 5 ((mNode.mkL xs k).map sNode))), (1, aI (mNode.pos xs k i)), (5, aI i)], []⟩) (xs.length) ⟨0, by simp [Mk.pos_zero]⟩ ?_
  rintro n σ ⟨i, hi, rfl, rfl⟩
  have hp1 : mNode.pos xs k i ≤ k + mNode.nL xs := Mk.pos_le hi
  have hp2 : k ≤ mNode.pos xs k i := Mk.pos_ge
  by_cases h : i < xs.length
  · have hw := wL_get wNode xs i h
    have hpst : mNode.pos xs k (i + 1) = mNode.pos xs k i + mNode.n xs[i] := Mk.pos_step h
    have hle : mNode.pos xs k (i + 1) ≤ k + mNode.nL xs := Mk.pos_le h
    have hga := Mk.mkL_at (M := mNode) (k := k) h
    generalize hκ : mNode.pos xs k i = p0 at *
    rcases ha : xs[i] with ⟨bkind, bsym, balt, bpos, bkids⟩
    simp only [ha, mNode_n, mNode_wr] at hpst hga
    simp only [ha, wNode] at hw
    obtain ⟨p1, hq1⟩ : ∃ p : Int, p = p0 + 1 := ⟨_, rfl⟩
    have ww0 : IntKind.i64.wrap (p0 + 1) = p1 := by rw [wrapI (by omega) (by omega), hq1]
    have nn0 : ¬ p1 < 0 := by omega
    obtain ⟨p2, hq2⟩ : ∃ p : Int, p = p1 + 1 := ⟨_, rfl⟩
    have ww1 : IntKind.i64.wrap (p1 + 1) = p2 := by rw [wrapI (by omega) (by omega), hq2]
    have nn1 : ¬ p2 < 0 := by omega
    obtain ⟨p3, hq3⟩ : ∃ p : Int, p = p2 + 1 := ⟨_, rfl⟩
    have ww2 : IntKind.i64.wrap (p2 + 1) = p3 := by rw [wrapI (by omega) (by omega), hq3]
    have nn2 : ¬ p3 < 0 := by omega
    obtain ⟨p4, hq4⟩ : ∃ p : Int, p = p3 + 1 := ⟨_, rfl⟩
    have ww3 : IntKind.i64.wrap (p3 + 1) = p4 := by rw [wrapI (by omega) (by omega), hq4]
    have nn3 : ¬ p4 < 0 := by omega
    obtain ⟨p5, hq5⟩ : ∃ p : Int, p = p4 + (mI.nL bkids : Int) := ⟨_, rfl⟩
    have nn4 : ¬ p5 < 0 := by omega
    simp only [← hq1, ← hq2, ← hq3, ← hq4, ← hq5] at hga
    simp [h, hga, sNode, ww0, nn0, ww1, nn1, ww2, nn2, ww3, nn3, nn4]
    have hc4 := h_heldIntS bkids p4 (by omega) (by omega)
    rw [← hq5] at hc4
    refine callG_F hc4 (by simp) ?_
    simp [h, hga, sNode, ww0, nn0, ww1, nn1, ww2, nn2, ww3, nn3, nn4]
    refine ⟨xs.length - (i + 1), by omega, i + 1, by omega, rfl, ?_⟩
    rw [wrapI (by omega) (by omega)]
    simp; omega
  · have : i = xs.length := by omega
    subst this
    simp [Mk.pos_all]
end Go.Am
-- Slot_hd
namespace Go.Am
open Go.Proofs
set_option maxHeartbeats 4000000
set_option maxRecDepth 100000
attribute [-simp] rErr_len sErr_len shr_rErr shr_sErr shrs_rErr shrs_sErr noSh_rErr mErr_wr mErr_n rNode_len sNode_len shr_rNode shr_sNode shrs_rNode shrs_sNode noSh_rNode mNode_wr mNode_n rTree_len sTree_len shr_rTree shr_sTree shrs_rTree shrs_sTree noSh_rTree mTree_wr mTree_n rRun_len sRun_len shr_rRun shr_sRun shrs_rRun shrs_sRun noSh_rRun mRun_wr mRun_n rJob_len sJob_len shr_rJob shr_sJob shrs_rJob shrs_sJob noSh_rJob mJob_wr mJob_n rOutcome_len sOutcome_len shr_rOutcome shr_sOutcome shrs_rOutcome shrs_sOutcome noSh_rOutcome mOutcome_wr mOutcome_n rTenant_len sTenant_len shr_rTenant shr_sTenant shrs_rTenant shrs_sTenant noSh_rTenant mTenant_wr mTenant_n map_rs_Slot map_rs_Err map_rs_Outcome uTenant_wr uTenant_n rConf_len sConf_len shr_rConf shr_sConf shrs_rConf shrs_sConf noSh_rConf mConf_wr mConf_n rLine_len sLine_len shr_rLine shr_sLine shrs_rLine shrs_sLine noSh_rLine mLine_wr mLine_n rStore_len sStore_len shr_rStore shr_sStore shrs_rStore shrs_sStore noSh_rStore mStore_wr mStore_n uStore_wr uStore_n noSh_sOutcome noSh_sSlot noSh_sErr noSh_tenant
-- 101 loop.example/g00485/laws.heldSlotS
def k_laws_heldSlotS : K :=
 .seq (
  .reg none [⟨(some 4), none, .asn (.c (.int .i64 (0)))⟩]) (
 .seq (
  .seq (
   .reg none [⟨(some 5), none, .asn (.c (.int .i64 (0)))⟩]) (
  .block 0 (
   .loop (some ([0, 1, 5], [0, 1, 5, 1000])) (
    .seq (
     .seq (
      .reg none [⟨(some 6), none, .mv (.t 5)⟩,
        ⟨(some 7), none, .mv (.t 0)⟩,
        ⟨(some 8), none, .len (.t 7)⟩,
        ⟨(some 9), none, .bin .lss (.t 6) (.t 8)⟩]) (
     .cond (.t 9) (
      .skip) (
      .exit 0))) (
    .seq (
     .block 1 (
      .seq (
       .seq (
        .reg none [⟨(some 12), none, .mv (.t 0)⟩,
          ⟨(some 13), none, .mv (.t 5)⟩,
          ⟨(some 14), none, .iad 2 (.t 12) (.t 13)⟩,
          ⟨(some 15), none, .fad 0 (.t 14)⟩,
          ⟨(some 16), none, .ld 1 false (.t 15)⟩,
          ⟨(some 17), none, .mv (.t 1)⟩,
          ⟨(some 18), none, .bin .neq (.t 16) (.t 17)⟩]) (
       .cond (.t 18) (
        .seq (
         .reg none [⟨(some 4), none, .asn (.c (.int .i64 (-1)))⟩]) (
        .ret)) (
        .skip))) (
      .seq (
       .reg none [⟨(some 19), none, .mv (.t 1)⟩,
         ⟨(some 20), none, .bin .add (.t 19) (.c (.int .i64 (1)))⟩,
         ⟨(some 1), none, .asn (.t 20)⟩]) (
      .seq (
       .seq (
        .reg none [⟨(some 21), none, .mv (.t 0)⟩,
          ⟨(some 22), none, .mv (.t 5)⟩,
          ⟨(some 23), none, .iad 2 (.t 21) (.t 22)⟩,
          ⟨(some 24), none, .fad 1 (.t 23)⟩,
          ⟨(some 25), none, .ld 1 false (.t 24)⟩,
          ⟨(some 26), none, .mv (.t 1)⟩,
          ⟨(some 27), none, .bin .neq (.t 25) (.t 26)⟩]) (
       .cond (.t 27) (
        .seq (
         .reg none [⟨(some 4), none, .asn (.c (.int .i64 (-1)))⟩]) (
        .ret)) (
        .skip))) (
      .reg none [⟨(some 28), none, .mv (.t 1)⟩,
        ⟨(some 29), none, .bin .add (.t 28) (.c (.int .i64 (1)))⟩,
        ⟨(some 1), none, .asn (.t 29)⟩]))))) (
    .reg none [⟨(some 10), none, .mv (.t 5)⟩,
      ⟨(some 11), none, .bin .add (.t 10) (.c (.int .i64 (1)))⟩,
      ⟨(some 5), none, .asn (.t 11)⟩])))))) (
 .seq (
  .reg none [⟨(some 30), none, .mv (.t 1)⟩,
    ⟨(some 4), none, .asn (.t 30)⟩]) (
 .ret)))
def r_laws_heldSlotS : Nat × List RV := (31, [.t 4])

theorem c_laws_heldSlotS : cmpS PT PF PA (Try.prog.funcs[101]?) = some (r_laws_heldSlotS.1, r_laws_heldSlotS.2, stripK k_laws_heldSlotS) := by kernel_rfl

theorem h_heldSlotS (xs : List TSlot) (k : Int) (hk : 0 ≤ k) (hk2 : k + mSlot.nL xs < 2 ^ 50) (hk3 : wL wSlot xs < 2 ^ 50) : CallsF Try.prog 101 [.one (.ar false 0 2 ((mSlot.mkL xs k).map sSlot)), aI k] (aI (k + mSlot.nL xs)) := by
  refine Prun c_laws_heldSlotS (by simp [r_laws_heldSlotS]) (by simp) ?_
  unfold k_laws_heldSlotS r_laws_heldSlotS
  have hlen := wL_len wSlot xs
  simp
  refine awp_loop (fun n σ => ∃ i : Nat, i ≤ xs.length ∧ n = xs.length - i ∧ σ = ⟨[(0, .one (.ar false 0 2 ((mSlot.mkL xs k).map sSlot))), (1, aI (mSlot.pos xs k i)), (5, aI i)], []⟩) (xs.length) ⟨0, by simp [Mk.pos_zero]⟩ ?_
  rintro n σ ⟨i, hi, rfl, rfl⟩
  have hp1 : mSlot.pos xs k i ≤ k + mSlot.nL xs := Mk.pos_le hi
  have hp2 : k ≤ mSlot.pos xs k i := Mk.pos_ge
  by_cases h : i < xs.length
  · have hw := wL_get wSlot xs i h
    have hpst : mSlot.pos xs k (i + 1) = mSlot.pos xs k i + mSlot.n xs[i] := Mk.pos_step h
    have hle : mSlot.pos xs k (i + 1) ≤ k + mSlot.nL xs := Mk.pos_le h
    have hga := Mk.mkL_at (M := mSlot) (k := k) h
    generalize hκ : mSlot.pos xs k i = p0 at *
    rcases ha : xs[i] with ⟨bsym, bup⟩
    simp only [ha, mSlot_n, mSlot_wr] at hpst hga
    simp only [ha, wSlot] at hw
    obtain ⟨p1, hq1⟩ : ∃ p : Int, p = p0 + 1 := ⟨_, rfl⟩
    have ww0 : IntKind.i64.wrap (p0 + 1) = p1 := by rw [wrapI (by omega) (by omega), hq1]
    have nn0 : ¬ p1 < 0 := by omega
    obtain ⟨p2, hq2⟩ : ∃ p : Int, p = p1 + 1 := ⟨_, rfl⟩
    have ww1 : IntKind.i64.wrap (p1 + 1) = p2 := by rw [wrapI (by omega) (by omega), hq2]
    have nn1 : ¬ p2 < 0 := by omega
    simp only [← hq1, ← hq2] at hga
    simp [h, hga, sSlot, ww0, nn0, ww1, nn1]
    refine ⟨xs.length - (i + 1), by omega, i + 1, by omega, rfl, ?_⟩
    rw [wrapI (by omega) (by omega)]
    simp; omega
  · have : i = xs.length := by omega
    subst this
    simp [Mk.pos_all]
end Go.Am
-- Job_hd
namespace Go.Am
open Go.Proofs
set_option maxHeartbeats 4000000
set_option maxRecDepth 100000
attribute [-simp] rOutcome_len sOutcome_len shr_rOutcome shr_sOutcome shrs_rOutcome shrs_sOutcome noSh_rOutcome mOutcome_wr mOutcome_n rTenant_len sTenant_len shr_rTenant shr_sTenant shrs_rTenant shrs_sTenant noSh_rTenant mTenant_wr mTenant_n map_rs_Slot map_rs_Err map_rs_Outcome uTenant_wr uTenant_n rConf_len sConf_len shr_rConf shr_sConf shrs_rConf shrs_sConf noSh_rConf mConf_wr mConf_n rLine_len sLine_len shr_rLine shr_sLine shrs_rLine shrs_sLine noSh_rLine mLine_wr mLine_n rStore_len sStore_len shr_rStore shr_sStore shrs_rStore shrs_sStore noSh_rStore mStore_wr mStore_n uStore_wr uStore_n noSh_sOutcome noSh_sSlot noSh_sErr noSh_tenant
-- 51 loop.example/g00485/laws.heldJobS
def k_laws_heldJobS : K :=
 .seq (
  .reg none [⟨(some 4), none, .asn (.c (.int .i64 (0)))⟩]) (
 .seq (
  .seq (
   .reg none [⟨(some 5), none, .asn (.c (.int .i64 (0)))⟩]) (
  .block 0 (
   .loop (some ([0, 1, 5], [0, 1, 5, 1000])) (
    .seq (
     .seq (
      .reg none [⟨(some 6), none, .mv (.t 5)⟩,
        ⟨(some 7), none, .mv (.t 0)⟩,
        ⟨(some 8), none, .len (.t 7)⟩,
        ⟨(some 9), none, .bin .lss (.t 6) (.t 8)⟩]) (
     .cond (.t 9) (
      .skip) (
      .exit 0))) (
    .seq (
     .block 1 (
      .seq (
       .seq (
        .reg none [⟨(some 12), none, .mv (.t 0)⟩,
          ⟨(some 13), none, .mv (.t 5)⟩,
          ⟨(some 14), none, .iad 10 (.t 12) (.t 13)⟩,
          ⟨(some 15), none, .fad 0 (.t 14)⟩,
          ⟨(some 16), none, .ld 1 false (.t 15)⟩,
          ⟨(some 17), none, .mv (.t 1)⟩,
          ⟨(some 18), none, .bin .neq (.t 16) (.t 17)⟩]) (
       .cond (.t 18) (
        .seq (
         .reg none [⟨(some 4), none, .asn (.c (.int .i64 (-1)))⟩]) (
        .ret)) (
        .skip))) (
      .seq (
       .reg none [⟨(some 19), none, .mv (.t 1)⟩,
         ⟨(some 20), none, .bin .add (.t 19) (.c (.int .i64 (1)))⟩,
         ⟨(some 1), none, .asn (.t 20)⟩]) (
      .seq (
       .seq (
        .reg none [⟨(some 21), none, .mv (.t 0)⟩,
          ⟨(some 22), none, .mv (.t 5)⟩,
          ⟨(some 23), none, .iad 10 (.t 21) (.t 22)⟩,
          ⟨(some 24), none, .fad 1 (.t 23)⟩,
          ⟨(some 25), none, .ld 1 false (.t 24)⟩,
          ⟨(some 26), none, .mv (.t 1)⟩,
          ⟨(some 27), none, .bin .neq (.t 25) (.t 26)⟩]) (
       .cond (.t 27) (
        .seq (
         .reg none [⟨(some 4), none, .asn (.c (.int .i64 (-1)))⟩]) (
        .ret)) (
        .skip))) (
      .seq (
       .reg none [⟨(some 28), none, .mv (.t 1)⟩,
         ⟨(some 29), none, .bin .add (.t 28) (.c (.int .i64 (1)))⟩,
         ⟨(some 1), none, .asn (.t 29)⟩]) (
      .seq (
       .reg none [⟨(some 30), none, .mv (.t 0)⟩,
         ⟨(some 31), none, .mv (.t 5)⟩,
         ⟨(some 32), none, .iad 10 (.t 30) (.t 31)⟩,
         ⟨(some 33), none, .fad 2 (.t 32)⟩,
         ⟨(some 34), none, .ld 1 false (.t 33)⟩,
         ⟨(some 35), none, .mv (.t 1)⟩,
         ⟨(some 36), none, .call 63 [(.t 34), (.t 35)]⟩,
         ⟨(some 1), none, .asn (.t 36)⟩]) (
      .seq (
       .seq (
        .reg none [⟨(some 37), none, .mv (.t 1)⟩,
          ⟨(some 38), none, .bin .lss (.t 37) (.c (.int .i64 (0)))⟩]) (
       .cond (.t 38) (
        .seq (
         .reg none [⟨(some 4), none, .asn (.c (.int .i64 (-1)))⟩]) (
        .ret)) (
        .skip))) (
      .seq (
       .seq (
        .reg none [⟨(some 39), none, .mv (.t 0)⟩,
          ⟨(some 40), none, .mv (.t 5)⟩,
          ⟨(some 41), none, .iad 10 (.t 39) (.t 40)⟩,
          ⟨(some 42), none, .fad 3 (.t 41)⟩,
          ⟨(some 43), none, .fad 0 (.t 42)⟩,
          ⟨(some 44), none, .ld 1 false (.t 43)⟩,
          ⟨(some 45), none, .mv (.t 1)⟩,
          ⟨(some 46), none, .bin .neq (.t 44) (.t 45)⟩]) (
       .cond (.t 46) (
        .seq (
         .reg none [⟨(some 4), none, .asn (.c (.int .i64 (-1)))⟩]) (
        .ret)) (
        .skip))) (
      .seq (
       .reg none [⟨(some 47), none, .mv (.t 1)⟩,
         ⟨(some 48), none, .bin .add (.t 47) (.c (.int .i64 (1)))⟩,
         ⟨(some 1), none, .asn (.t 48)⟩]) (
      .seq (
       .seq (
        .reg none [⟨(some 49), none, .mv (.t 0)⟩,
          ⟨(some 50), none, .mv (.t 5)⟩,
          ⟨(some 51), none, .iad 10 (.t 49) (.t 50)⟩,
          ⟨(some 52), none, .fad 3 (.t 51)⟩,
          ⟨(some 53), none, .fad 1 (.t 52)⟩,
          ⟨(some 54), none, .ld 1 false (.t 53)⟩,
          ⟨(some 55), none, .mv (.t 1)⟩,
          ⟨(some 56), none, .bin .neq (.t 54) (.t 55)⟩]) (
       .cond (.t 56) (
        .seq (
         .reg none [⟨(some 4), none, .asn (.c (.int .i64 (-1)))⟩]) (
        .ret)) (
        .skip))) (
      .seq (
       .reg none [⟨(some 57), none, .mv (.t 1)⟩,
         ⟨(some 58), none, .bin .add (.t 57) (.c (.int .i64 (1)))⟩,
         ⟨(some 1), none, .asn (.t 58)⟩]) (
      .seq (
       .seq (
        .reg none [⟨(some 59), none, .mv (.t 0)⟩,
          ⟨(some 60), none, .mv (.t 5)⟩,
          ⟨(some 61), none, .iad 10 (.t 59) (.t 60)⟩,
          ⟨(some 62), none, .fad 3 (.t 61)⟩,
          ⟨(some 63), none, .fad 2 (.t 62)⟩,
          ⟨(some 64), none, .ld 1 false (.t 63)⟩,
          ⟨(some 65), none, .mv (.t 1)⟩,
          ⟨(some 66), none, .bin .neq (.t 64) (.t 65)⟩]) (
       .cond (.t 66) (
        .seq (
         .reg none [⟨(some 4), none, .asn (.c (.int .i64 (-1)))⟩]) (
        .ret)) (
        .skip))) (
      .seq (
       .reg none [⟨(some 67), none, .mv (.t 1)⟩,
         ⟨(some 68), none, .bin .add (.t 67) (.c (.int .i64 (1)))⟩,
         ⟨(some 1), none, .asn (.t 68)⟩]) (
      .seq (
       .seq (
        .reg none [⟨(some 69), none, .mv (.t 0)⟩,
          ⟨(some 70), none, .mv (.t 5)⟩,
          ⟨(some 71), none, .iad 10 (.t 69) (.t 70)⟩,
          ⟨(some 72), none, .fad 3 (.t 71)⟩,
          ⟨(some 73), none, .fad 3 (.t 72)⟩,
          ⟨(some 74), none, .ld 1 false (.t 73)⟩,
          ⟨(some 75), none, .mv (.t 1)⟩,
          ⟨(some 76), none, .bin .neq (.t 74) (.t 75)⟩]) (
       .cond (.t 76) (
        .seq (
         .reg none [⟨(some 4), none, .asn (.c (.int .i64 (-1)))⟩]) (
        .ret)) (
        .skip))) (
      .seq (
       .reg none [⟨(some 77), none, .mv (.t 1)⟩,
         ⟨(some 78), none, .bin .add (.t 77) (.c (.int .i64 (1)))⟩,
         ⟨(some 1), none, .asn (.t 78)⟩]) (
      .seq (
       .reg none [⟨(some 79), none, .mv (.t 0)⟩,
         ⟨(some 80), none, .mv (.t 5)⟩,
         ⟨(some 81), none, .iad 10 (.t 79) (.t 80)⟩,
         ⟨(some 82), none, .fad 3 (.t 81)⟩,
         ⟨(some 83), none, .fad 4 (.t 82)⟩,
         ⟨(some 84), none, .ld 1 false (.t 83)⟩,
         ⟨(some 85), none, .mv (.t 1)⟩,
         ⟨(some 86), none, .call 101 [(.t 84), (.t 85)]⟩,
         ⟨(some 1), none, .asn (.t 86)⟩]) (
      .seq (
       .seq (
        .reg none [⟨(some 87), none, .mv (.t 1)⟩,
          ⟨(some 88), none, .bin .lss (.t 87) (.c (.int .i64 (0)))⟩]) (
       .cond (.t 88) (
        .seq (
         .reg none [⟨(some 4), none, .asn (.c (.int .i64 (-1)))⟩]) (
        .ret)) (
        .skip))) (
      .seq (
       .reg none [⟨(some 89), none, .mv (.t 0)⟩,
         ⟨(some 90), none, .mv (.t 5)⟩,
         ⟨(some 91), none, .iad 10 (.t 89) (.t 90)⟩,
         ⟨(some 92), none, .fad 3 (.t 91)⟩,
         ⟨(some 93), none, .fad 5 (.t 92)⟩,
         ⟨(some 94), none, .fad 0 (.t 93)⟩,
         ⟨(some 95), none, .ld 1 false (.t 94)⟩,
         ⟨(some 96), none, .mv (.t 1)⟩,
         ⟨(some 97), none, .call 102 [(.t 95), (.t 96)]⟩,
         ⟨(some 1), none, .asn (.t 97)⟩]) (
      .seq (
       .seq (
        .reg none [⟨(some 98), none, .mv (.t 1)⟩,
          ⟨(some 99), none, .bin .lss (.t 98) (.c (.int .i64 (0)))⟩]) (
       .cond (.t 99) (
        .seq (
         .reg none [⟨(some 4), none, .asn (.c (.int .i64 (-1)))⟩]) (
        .ret)) (
        .skip))) (
      .seq (
       .reg none [⟨(some 100), none, .mv (.t 0)⟩,
         ⟨(some 101), none, .mv (.t 5)⟩,
         ⟨(some 102), none, .iad 10 (.t 100) (.t 101)⟩,
         ⟨(some 103), none, .fad 3 (.t 102)⟩,
         ⟨(some 104), none, .fad 6 (.t 103)⟩,
         ⟨(some 105), none, .ld 1 false (.t 104)⟩,
         ⟨(some 106), none, .mv (.t 1)⟩,
         ⟨(some 107), none, .call 103 [(.t 105), (.t 106)]⟩,
         ⟨(some 1), none, .asn (.t 107)⟩]) (
      .seq (
       .reg none [⟨(some 108), none, .mv (.t 1)⟩,
         ⟨(some 109), none, .bin .lss (.t 108) (.c (.int .i64 (0)))⟩]) (
      .cond (.t 109) (
       .seq (
        .reg none [⟨(some 4), none, .asn (.c (.int .i64 (-1)))⟩]) (
       .ret)) (
       .skip))))))))))))))))))))))) (
    .reg none [⟨(some 10), none, .mv (.t 5)⟩,
      ⟨(some 11), none, .bin .add (.t 10) (.c (.int .i64 (1)))⟩,
      ⟨(some 5), none, .asn (.t 11)⟩])))))) (
 .seq (
  .reg none [⟨(some 110), none, .mv (.t 1)⟩,
    ⟨(some 4), none, .asn (.t 110)⟩]) (
 .ret)))
def r_laws_heldJobS : Nat × List RV := (111, [.t 4])

theorem c_laws_heldJobS : cmpS PT PF PA (Try.prog.funcs[51]?) = some (r_laws_heldJobS.1, r_laws_heldJobS.2, stripK k_laws_heldJobS) := by kernel_rfl

theorem h_heldJobS (xs : List TJob) (k : Int) (hk : 0 ≤ k) (hk2 : k + mJob.nL xs < 2 ^ 50) (hk3 : wL wJob xs < 2 ^ 50) : CallsF Try.prog 51 [.one (.ar false 0 10 ((mJob.mkL xs k).map sJob)), aI k] (aI (k + mJob.nL xs)) := by
  refine Prun c_laws_heldJobS (by simp [r_laws_heldJobS]) (by simp) ?_
  unfold k_laws_heldJobS r_laws_heldJobS
  have hlen := wL_len wJob xs
  simp
  refine awp_loop (fun n σ => ∃ i : Nat, i ≤ xs.length ∧ n = xs.length - i ∧ σ = ⟨[(0, .one (.ar false 0 10 ((mJob.mkL xs k).map sJob))), (1, aI (mJob.pos xs k i)), (5, aI i)], []⟩) (xs.length) ⟨0, by simp [Mk.pos_zero]⟩ ?_
  rintro n σ ⟨i, hi, rfl, rfl⟩
  have hp1 : mJob.pos xs k i ≤ k + mJob.nL xs := Mk.pos_le hi
  have hp2 : k ≤ mJob.pos xs k i := Mk.pos_ge
  by_cases h : i < xs.length
  · have hw := wL_get wJob xs i h
    have hpst : mJob.pos xs k (i + 1) = mJob.pos xs k i + mJob.n xs[i] := Mk.pos_step h
    have hle : mJob.pos xs k (i + 1) ≤ k + mJob.nL xs := Mk.pos_le h
    have hga := Mk.mkL_at (M := mJob) (k := k) h
    generalize hκ : mJob.pos xs k i = p0 at *
    rcases ha : xs[i] with ⟨bticket, bgram, binput, ⟨bruncode, brunpos, brunlook, bruncost, brunslots, ⟨bruntreenodes⟩, brunerrs⟩⟩
    simp only [ha, mJob_n, mJob_wr] at hpst hga
    simp only [ha, wJob, wRun, wTree] at hw
    obtain ⟨p1, hq1⟩ : ∃ p : Int, p = p0 + 1 := ⟨_, rfl⟩
    have ww0 : IntKind.i64.wrap (p0 + 1) = p1 := by rw [wrapI (by omega) (by omega), hq1]
    have nn0 : ¬ p1 < 0 := by omega
    obtain ⟨p2, hq2⟩ : ∃ p : Int, p = p1 + 1 := ⟨_, rfl⟩
    have ww1 : IntKind.i64.wrap (p1 + 1) = p2 := by rw [wrapI (by omega) (by omega), hq2]
    have nn1 : ¬ p2 < 0 := by omega
    obtain ⟨p3, hq3⟩ : ∃ p : Int, p = p2 + (mI.nL binput : Int) := ⟨_, rfl⟩
    have nn2 : ¬ p3 < 0 := by omega
    obtain ⟨p4, hq4⟩ : ∃ p : Int, p = p3 + 1 := ⟨_, rfl⟩
    have ww3 : IntKind.i64.wrap (p3 + 1) = p4 := by rw [wrapI (by omega) (by omega), hq4]
    have nn3 : ¬ p4 < 0 := by omega
    obtain ⟨p5, hq5⟩ : ∃ p : Int, p = p4 + 1 := ⟨_, rfl⟩
    have ww4 : IntKind.i64.wrap (p4 + 1) = p5 := by rw [wrapI (by omega) (by omega), hq5]
    have nn4 : ¬ p5 < 0 := by omega
    obtain ⟨p6, hq6⟩ : ∃ p : Int, p = p5 + 1 := ⟨_, rfl⟩
    have ww5 : IntKind.i64.wrap (p5 + 1) = p6 := by rw [wrapI (by omega) (by omega), hq6]
    have nn5 : ¬ p6 < 0 := by omega
    obtain ⟨p7, hq7⟩ : ∃ p : Int, p = p6 + 1 := ⟨_, rfl⟩
    have ww6 : IntKind.i64.wrap (p6 + 1) = p7 := by rw [wrapI (by omega) (by omega), hq7]
    have nn6 : ¬ p7 < 0 := by omega
    obtain ⟨p8, hq8⟩ : ∃ p : Int, p = p7 + (mSlot.nL brunslots : Int) := ⟨_, rfl⟩
    have nn7 : ¬ p8 < 0 := by omega
    obtain ⟨p9, hq9⟩ : ∃ p : Int, p = p8 + (mNode.nL bruntreenodes : Int) := ⟨_, rfl⟩
    have nn8 : ¬ p9 < 0 := by omega
    obtain ⟨p10, hq10⟩ : ∃ p : Int, p = p9 + (mErr.nL brunerrs : Int) := ⟨_, rfl⟩
    have nn9 : ¬ p10 < 0 := by omega
    simp only [← hq1, ← hq2, ← hq3, ← hq4, ← hq5, ← hq6, ← hq7, ← hq8, ← hq9, ← hq10] at hga
    simp [h, hga, sJob, ww0, nn0, ww1, nn1, nn2, ww3, nn3, ww4, nn4, ww5, nn5, ww6, nn6, nn7, nn8, nn9]
    have hc2 := h_heldIntS binput p2 (by omega) (by omega)
    rw [← hq3] at hc2
    refine callG_F hc2 (by simp) ?_
    simp [h, hga, sJob, ww0, nn0, ww1, nn1, nn2, ww3, nn3, ww4, nn4, ww5, nn5, ww6, nn6, nn7, nn8, nn9]
    have hc7 := h_heldSlotS brunslots p7 (by omega) (by omega) (by omega)
    rw [← hq8] at hc7
    refine callG_F hc7 (by simp) ?_
    simp [h, hga, sJob, ww0, nn0, ww1, nn1, nn2, ww3, nn3, ww4, nn4, ww5, nn5, ww6, nn6, nn7, nn8, nn9]
    have hc8 := h_heldNodeS bruntreenodes p8 (by omega) (by omega) (by omega)
    rw [← hq9] at hc8
    refine callG_F hc8 (by simp) ?_
    simp [h, hga, sJob, ww0, nn0, ww1, nn1, nn2, ww3, nn3, ww4, nn4, ww5, nn5, ww6, nn6, nn7, nn8, nn9]
    have hc9 := h_heldErrS brunerrs p9 (by omega) (by omega) (by omega)
    rw [← hq10] at hc9
    refine callG_F hc9 (by simp) ?_
    simp [h, hga, sJob, ww0, nn0, ww1, nn1, nn2, ww3, nn3, ww4, nn4, ww5, nn5, ww6, nn6, nn7, nn8, nn9]
    refine ⟨xs.length - (i + 1), by omega, i + 1, by omega, rfl, ?_⟩
    rw [wrapI (by omega) (by omega)]
    simp; omega
  · have : i = xs.length := by omega
    subst this
    simp [Mk.pos_all]
end Go.Am
-- Outcome_hd
namespace Go.Am
open Go.Proofs
set_option maxHeartbeats 4000000
set_option maxRecDepth 100000
attribute [-simp] rErr_len sErr_len shr_rErr shr_sErr shrs_rErr shrs_sErr noSh_rErr mErr_wr mErr_n rSlot_len sSlot_len shr_rSlot shr_sSlot shrs_rSlot shrs_sSlot noSh_rSlot mSlot_wr mSlot_n rNode_len sNode_len shr_rNode shr_sNode shrs_rNode shrs_sNode noSh_rNode mNode_wr mNode_n rTree_len sTree_len shr_rTree shr_sTree shrs_rTree shrs_sTree noSh_rTree mTree_wr mTree_n rRun_len sRun_len shr_rRun shr_sRun shrs_rRun shrs_sRun noSh_rRun mRun_wr mRun_n rJob_len sJob_len shr_rJob shr_sJob shrs_rJob shrs_sJob noSh_rJob mJob_wr mJob_n rTenant_len sTenant_len shr_rTenant shr_sTenant shrs_rTenant shrs_sTenant noSh_rTenant mTenant_wr mTenant_n map_rs_Slot map_rs_Err map_rs_Outcome uTenant_wr uTenant_n rConf_len sConf_len shr_rConf shr_sConf shrs_rConf shrs_sConf noSh_rConf mConf_wr mConf_n rLine_len sLine_len shr_rLine shr_sLine shrs_rLine shrs_sLine noSh_rLine mLine_wr mLine_n rStore_len sStore_len shr_rStore shr_sStore shrs_rStore shrs_sStore noSh_rStore mStore_wr mStore_n uStore_wr uStore_n noSh_sOutcome noSh_sSlot noSh_sErr noSh_tenant
-- 33 loop.example/g00485/laws.heldOutcomeS
def k_laws_heldOutcomeS : K :=
 .seq (
  .reg none [⟨(some 4), none, .asn (.c (.int .i64 (0)))⟩]) (
 .seq (
  .seq (
   .reg none [⟨(some 5), none, .asn (.c (.int .i64 (0)))⟩]) (
  .block 0 (
   .loop (some ([0, 1, 5], [0, 1, 5, 1000])) (
    .seq (
     .seq (
      .reg none [⟨(some 6), none, .mv (.t 5)⟩,
        ⟨(some 7), none, .mv (.t 0)⟩,
        ⟨(some 8), none, .len (.t 7)⟩,
        ⟨(some 9), none, .bin .lss (.t 6) (.t 8)⟩]) (
     .cond (.t 9) (
      .skip) (
      .exit 0))) (
    .seq (
     .block 1 (
      .seq (
       .seq (
        .reg none [⟨(some 12), none, .mv (.t 0)⟩,
          ⟨(some 13), none, .mv (.t 5)⟩,
          ⟨(some 14), none, .iad 3 (.t 12) (.t 13)⟩,
          ⟨(some 15), none, .fad 0 (.t 14)⟩,
          ⟨(some 16), none, .ld 1 false (.t 15)⟩,
          ⟨(some 17), none, .mv (.t 1)⟩,
          ⟨(some 18), none, .bin .neq (.t 16) (.t 17)⟩]) (
       .cond (.t 18) (
        .seq (
         .reg none [⟨(some 4), none, .asn (.c (.int .i64 (-1)))⟩]) (
        .ret)) (
        .skip))) (
      .seq (
       .reg none [⟨(some 19), none, .mv (.t 1)⟩,
         ⟨(some 20), none, .bin .add (.t 19) (.c (.int .i64 (1)))⟩,
         ⟨(some 1), none, .asn (.t 20)⟩]) (
      .seq (
       .seq (
        .reg none [⟨(some 21), none, .mv (.t 0)⟩,
          ⟨(some 22), none, .mv (.t 5)⟩,
          ⟨(some 23), none, .iad 3 (.t 21) (.t 22)⟩,
          ⟨(some 24), none, .fad 1 (.t 23)⟩,
          ⟨(some 25), none, .ld 1 false (.t 24)⟩,
          ⟨(some 26), none, .mv (.t 1)⟩,
          ⟨(some 27), none, .bin .neq (.t 25) (.t 26)⟩]) (
       .cond (.t 27) (
        .seq (
         .reg none [⟨(some 4), none, .asn (.c (.int .i64 (-1)))⟩]) (
        .ret)) (
        .skip))) (
      .seq (
       .reg none [⟨(some 28), none, .mv (.t 1)⟩,
         ⟨(some 29), none, .bin .add (.t 28) (.c (.int .i64 (1)))⟩,
         ⟨(some 1), none, .asn (.t 29)⟩]) (
      .seq (
       .seq (
        .drw none 8 [⟨(some 30), none, .mv (.t 0)⟩,
          ⟨(some 31), none, .mv (.t 5)⟩,
          ⟨(some 32), none, .iad 3 (.t 30) (.t 31)⟩,
          ⟨(some 33), none, .fad 2 (.t 32)⟩,
          ⟨(some 34), none, .ld 1 false (.t 33)⟩,
          ⟨(some 35), none, .mv (.t 1)⟩,
          ⟨(some 36), none, .call 72 [(.t 35)]⟩,
          ⟨(some 37), none, .bin .neq (.t 34) (.t 36)⟩]) (
       .cond (.t 37) (
        .seq (
         .reg none [⟨(some 4), none, .asn (.c (.int .i64 (-1)))⟩]) (
        .ret)) (
        .skip))) (
      .reg none [⟨(some 38), none, .mv (.t 1)⟩,
        ⟨(some 39), none, .bin .add (.t 38) (.c (.int .i64 (1)))⟩,
        ⟨(some 1), none, .asn (.t 39)⟩]))))))) (
    .reg none [⟨(some 10), none, .mv (.t 5)⟩,
      ⟨(some 11), none, .bin .add (.t 10) (.c (.int .i64 (1)))⟩,
      ⟨(some 5), none, .asn (.t 11)⟩])))))) (
 .seq (
  .reg none [⟨(some 40), none, .mv (.t 1)⟩,
    ⟨(some 4), none, .asn (.t 40)⟩]) (
 .ret)))
def r_laws_heldOutcomeS : Nat × List RV := (41, [.t 4])

theorem c_laws_heldOutcomeS : cmpS PT PF PA (Try.prog.funcs[33]?) = some (r_laws_heldOutcomeS.1, r_laws_heldOutcomeS.2, stripK k_laws_heldOutcomeS) := by kernel_rfl

theorem h_heldOutcomeS (xs : List TOutcome) (k : Int) (hk : 0 ≤ k) (hk2 : k + mOutcome.nL xs < 2 ^ 50) (hk3 : wL wOutcome xs < 2 ^ 50) : CallsF Try.prog 33 [.one (.ar false 0 3 ((mOutcome.mkL xs k).map sOutcome)), aI k] (aI (k + mOutcome.nL xs)) := by
  refine Prun c_laws_heldOutcomeS (by simp [r_laws_heldOutcomeS]) (by simp) ?_
  unfold k_laws_heldOutcomeS r_laws_heldOutcomeS
  have hlen := wL_len wOutcome xs
  simp
  refine awp_loop (fun n σ => ∃ i : Nat, i ≤ xs.length ∧ n = xs.length - i ∧ σ = ⟨[(0, .one (.ar false 0 3 ((mOutcome.mkL xs k).map sOutcome))), (1, aI (mOutcome.pos xs k i)), (5, aI i)], []⟩) (xs.length) ⟨0, by simp [Mk.pos_zero]⟩ ?_
  rintro n σ ⟨i, hi, rfl, rfl⟩
  have hp1 : mOutcome.pos xs k i ≤ k + mOutcome.nL xs := Mk.pos_le hi
  have hp2 : k ≤ mOutcome.pos xs k i := Mk.pos_ge
  by_cases h : i < xs.length
  · have hw := wL_get wOutcome xs i h
    have hpst : mOutcome.pos xs k (i + 1) = mOutcome.pos xs k i + mOutcome.n xs[i] := Mk.pos_step h
    have hle : mOutcome.pos xs k (i + 1) ≤ k + mOutcome.nL xs := Mk.pos_le h
    have hga := Mk.mkL_at (M := mOutcome) (k := k) h
    generalize hκ : mOutcome.pos xs k i = p0 at *
    rcases ha : xs[i] with ⟨bticket, bcode, btext⟩
    simp only [ha, mOutcome_n, mOutcome_wr] at hpst hga
    simp only [ha, wOutcome] at hw
    obtain ⟨p1, hq1⟩ : ∃ p : Int, p = p0 + 1 := ⟨_, rfl⟩
    have ww0 : IntKind.i64.wrap (p0 + 1) = p1 := by rw [wrapI (by omega) (by omega), hq1]
    have nn0 : ¬ p1 < 0 := by omega
    obtain ⟨p2, hq2⟩ : ∃ p : Int, p = p1 + 1 := ⟨_, rfl⟩
    have ww1 : IntKind.i64.wrap (p1 + 1) = p2 := by rw [wrapI (by omega) (by omega), hq2]
    have nn1 : ¬ p2 < 0 := by omega
    obtain ⟨p3, hq3⟩ : ∃ p : Int, p = p2 + 1 := ⟨_, rfl⟩
    have ww2 : IntKind.i64.wrap (p2 + 1) = p3 := by rw [wrapI (by omega) (by omega), hq3]
    have nn2 : ¬ p3 < 0 := by omega
    simp only [← hq1, ← hq2, ← hq3] at hga
    simp [h, hga, sOutcome, ww0, nn0, ww1, nn1, ww2, nn2]
    first | refine callG_F (h_markText p2 (by omega) (by omega)) (by simp) ?_ | refine ⟨_, by simp, h_markText p2 (by omega) (by omega), ?_⟩
    simp [h, hga, sOutcome, ww0, nn0, ww1, nn1, ww2, nn2]
    refine ⟨xs.length - (i + 1), by omega, i + 1, by omega, rfl, ?_⟩
    rw [wrapI (by omega) (by omega)]
    simp; omega
  · have : i = xs.length := by omega
    subst this
    simp [Mk.pos_all]
end Go.Am
-- Tenant_hd1
namespace Go.Am
open Go.Proofs
set_option maxHeartbeats 4000000
set_option maxRecDepth 100000
attribute [-simp] map_rs_Slot map_rs_Err map_rs_Outcome rConf_len sConf_len shr_rConf shr_sConf shrs_rConf shrs_sConf noSh_rConf mConf_wr mConf_n rLine_len sLine_len shr_rLine shr_sLine shrs_rLine shrs_sLine noSh_rLine mLine_wr mLine_n rStore_len sStore_len shr_rStore shr_sStore shrs_rStore shrs_sStore noSh_rStore mStore_wr mStore_n uStore_wr uStore_n noSh_sOutcome noSh_sSlot noSh_sErr noSh_tenant
-- 14 loop.example/g00485/laws.heldTenant
def k_laws_heldTenant : K :=
 .seq (
  .reg none [⟨(some 2), none, .box 25 10 (.t 0)⟩,
    ⟨(some 4), none, .asn (.c (.int .i64 (0)))⟩]) (
 .seq (
  .reg none [⟨(some 5), none, .fad 8 (.t 2)⟩,
    ⟨(some 6), none, .ld 1 false (.t 5)⟩,
    ⟨(some 7), none, .mv (.t 1)⟩,
    ⟨(some 8), none, .call 51 [(.t 6), (.t 7)]⟩,
    ⟨(some 1), none, .asn (.t 8)⟩]) (
 .seq (
  .seq (
   .reg none [⟨(some 9), none, .mv (.t 1)⟩,
     ⟨(some 10), none, .bin .lss (.t 9) (.c (.int .i64 (0)))⟩]) (
  .cond (.t 10) (
   .seq (
    .reg none [⟨(some 4), none, .asn (.c (.int .i64 (-1)))⟩]) (
   .ret)) (
   .skip))) (
 .seq (
  .reg none [⟨(some 11), none, .fad 9 (.t 2)⟩,
    ⟨(some 12), none, .ld 1 false (.t 11)⟩,
    ⟨(some 13), none, .mv (.t 1)⟩,
    ⟨(some 14), none, .call 33 [(.t 12), (.t 13)]⟩,
    ⟨(some 1), none, .asn (.t 14)⟩]) (
 .seq (
  .seq (
   .reg none [⟨(some 15), none, .mv (.t 1)⟩,
     ⟨(some 16), none, .bin .lss (.t 15) (.c (.int .i64 (0)))⟩]) (
  .cond (.t 16) (
   .seq (
    .reg none [⟨(some 4), none, .asn (.c (.int .i64 (-1)))⟩]) (
   .ret)) (
   .skip))) (
 .seq (
  .reg none [⟨(some 17), none, .mv (.t 1)⟩,
    ⟨(some 4), none, .asn (.t 17)⟩]) (
 .ret))))))
def r_laws_heldTenant : Nat × List RV := (18, [.t 4])

theorem c_laws_heldTenant : cmpS PT PF PA (Try.prog.funcs[14]?) = some (r_laws_heldTenant.1, r_laws_heldTenant.2, stripK k_laws_heldTenant) := by kernel_rfl

theorem h_heldTenant (a : TTenant) (k : Int) (hk : 0 ≤ k) (hk2 : k + uTenant.n a < 2 ^ 50) (hk3 : wTenant a < 2 ^ 50) : CallsF Try.prog 14 [.agg (sTenant (uTenant.wr a k)), aI k] (aI (k + uTenant.n a)) := by
  refine Prun c_laws_heldTenant (by simp [r_laws_heldTenant]) (by simp) ?_
  unfold k_laws_heldTenant r_laws_heldTenant
  simp only [uTenant_n, wTenant] at hk2 hk3
  obtain ⟨p0, hq0⟩ : ∃ p : Int, p = k + (mJob.nL a.queue : Int) := ⟨_, rfl⟩
  have nn0 : ¬ p0 < 0 := by omega
  obtain ⟨p1, hq1⟩ : ∃ p : Int, p = p0 + (mOutcome.nL a.out : Int) := ⟨_, rfl⟩
  have nn1 : ¬ p1 < 0 := by omega
  simp only [uTenant_wr, ← hq0, ← hq1]
  simp [sTenant, nn0, nn1]
  have hc0 := h_heldJobS a.queue k (by omega) (by omega) (by omega)
  simp only [← hq0] at hc0
  refine callG_F hc0 (by simp) ?_
  simp [nn0, nn1]
  have hc1 := h_heldOutcomeS a.out p0 (by omega) (by omega) (by omega)
  simp only [← hq1] at hc1
  refine callG_F hc1 (by simp) ?_
  simp [nn0, nn1]
  try omega
end Go.Am
-- L_Finish
namespace Go.Am
open Go.Proofs
set_option maxHeartbeats 4000000
set_option maxRecDepth 100000
theorem fin_w (t : TTenant) (code : Int) (text : ByteArray) : wTenant (finT t code text) ≤ wTenant t + text.size + 1 := by
  unfold finT
  split
  · simp only [endT, wTenant, putL]
    have h1 := wL_append wOutcome (t.out.take (putN t.out (t.queue.getD 0 default).ticket)) (t.out.drop (putN t.out (t.queue.getD 0 default).ticket))
    rw [List.take_append_drop] at h1
    have h2 := wL_append wJob (t.queue.take 1) (t.queue.drop 1)
    rw [List.take_append_drop] at h2
    simp only [wL_append, wL, List.take_zero, List.nil_append, wOutcome, Nat.zero_add] at h1 h2 ⊢
    omega
  · omega
-- 9 loop.example/g00485/laws.FnExactFinish
def k_laws_FnExactFinish : K :=
 .seq (
  .reg none [⟨(some 3), none, .box 52 10 (.t 0)⟩,
    ⟨(some 6), none, .asn (.c (.bool false))⟩]) (
 .seq (
  .seq (
   .reg none [⟨(some 18), none, .mv (.t 2)⟩,
     ⟨(some 19), none, .lns (.t 18)⟩,
     ⟨(some 20), none, .bin .gtr (.t 19) (.c (.int .i64 (1048576)))⟩]) (
  .cond (.t 20) (
   .seq (
    .reg none [⟨(some 6), none, .asn (.c (.bool true))⟩]) (
   .ret)) (
   .skip))) (
 .seq (
  .reg none [⟨(some 7), none, .asn (.c (.int .i64 (1048576)))⟩]) (
 .seq (
  .reg none [⟨(some 21), none, .ld 10 true (.t 3)⟩,
    ⟨(some 22), none, .mv (.t 7)⟩,
    ⟨(some 23), none, .call 27 [(.t 21), (.t 22)]⟩,
    ⟨(some 7), none, .asn (.t 23)⟩]) (
 .seq (
  .seq (
   .reg none [⟨(some 24), none, .mv (.t 7)⟩,
     ⟨(some 25), none, .bin .lss (.t 24) (.c (.int .i64 (0)))⟩]) (
  .cond (.t 25) (
   .seq (
    .reg none [⟨(some 6), none, .asn (.c (.bool true))⟩]) (
   .ret)) (
   .skip))) (
 .seq (
  .reg none [⟨(some 27), none, .ld 10 true (.t 3)⟩,
    ⟨(some 28), none, .call 29 [(.t 27)]⟩,
    ⟨(some 29), none, .mv (.t 1)⟩,
    ⟨(some 30), none, .mv (.t 2)⟩,
    ⟨(some 31), none, .call 45 [(.t 28), (.t 29), (.t 30)]⟩,
    ⟨(some 26), none, .mv (.t 31)⟩,
    ⟨(some 32), none, .ext 0 (.t 26)⟩,
    ⟨(some 33), none, .ext 1 (.t 26)⟩,
    ⟨(some 8), none, .alc 25 10 [(.int .i64 (0)), (.int .i64 (0)), (.int .i64 (0)), (.int .i64 (0)), (.int .i64 (0)), (.int .i64 (0)), (.int .i64 (0)), (.int .i64 (0)), (.ar true 133 10 []), (.ar true 102 3 [])]⟩,
    ⟨none, none, .st 10 false (.t 8) (.t 32)⟩,
    ⟨(some 9), none, .asn (.t 33)⟩]) (
 .seq (
  .reg none [⟨(some 34), none, .ld 10 true (.t 3)⟩,
    ⟨(some 35), none, .call 29 [(.t 34)]⟩,
    ⟨(some 10), none, .alc 25 10 [(.int .i64 (0)), (.int .i64 (0)), (.int .i64 (0)), (.int .i64 (0)), (.int .i64 (0)), (.int .i64 (0)), (.int .i64 (0)), (.int .i64 (0)), (.ar true 133 10 []), (.ar true 102 3 [])]⟩,
    ⟨none, none, .st 10 false (.t 10) (.t 35)⟩]) (
 .seq (
  .reg none [⟨(some 37), none, .ld 10 true (.t 10)⟩,
    ⟨(some 38), none, .mv (.t 1)⟩,
    ⟨(some 39), none, .mv (.t 2)⟩,
    ⟨(some 40), none, .call 46 [(.t 37), (.t 38), (.t 39)]⟩,
    ⟨(some 36), none, .mv (.t 40)⟩,
    ⟨(some 41), none, .ext 0 (.t 36)⟩,
    ⟨(some 42), none, .ext 1 (.t 36)⟩,
    ⟨(some 11), none, .alc 25 10 [(.int .i64 (0)), (.int .i64 (0)), (.int .i64 (0)), (.int .i64 (0)), (.int .i64 (0)), (.int .i64 (0)), (.int .i64 (0)), (.int .i64 (0)), (.ar true 133 10 []), (.ar true 102 3 [])]⟩,
    ⟨none, none, .st 10 false (.t 11) (.t 41)⟩,
    ⟨(some 12), none, .asn (.t 42)⟩]) (
 .seq (
  .seq (
   .reg none [⟨(some 43), none, .ld 10 true (.t 11)⟩,
     ⟨(some 44), none, .ld 10 true (.t 8)⟩,
     ⟨(some 45), none, .call 12 [(.t 43), (.t 44)]⟩,
     ⟨(some 46), none, .not (.t 45)⟩,
     ⟨(some 47), none, .mv (.t 46)⟩,
     ⟨(some 48), (some (47, false)), .mv (.t 12)⟩,
     ⟨(some 49), (some (47, false)), .mv (.t 9)⟩,
     ⟨(some 50), (some (47, false)), .beq true (.t 48) (.t 49)⟩,
     ⟨(some 51), none, .pick (.t 47) (.c (.bool true)) (.t 50)⟩]) (
  .cond (.t 51) (
   .seq (
    .reg none [⟨(some 6), none, .asn (.c (.bool false))⟩]) (
   .ret)) (
   .skip))) (
 .seq (
  .seq (
   .grp none 3 [0, 1] [2] [⟨(some 52), none, .ld 10 true (.t 10)⟩,
     ⟨(some 53), none, .ld 10 true (.t 3)⟩,
     ⟨(some 54), none, .call 29 [(.t 53)]⟩,
     ⟨(some 55), none, .call 12 [(.t 52), (.t 54)]⟩,
     ⟨(some 56), none, .not (.t 55)⟩]) (
  .cond (.t 56) (
   .seq (
    .reg none [⟨(some 6), none, .asn (.c (.bool false))⟩]) (
   .ret)) (
   .skip))) (
 .seq (
  .reg none [⟨(some 13), none, .asn (.c (.int .i64 (1)))⟩]) (
 .seq (
  .reg none [⟨(some 57), none, .ld 10 true (.t 10)⟩,
    ⟨(some 58), none, .mv (.t 13)⟩,
    ⟨(some 59), none, .callr 13 (.t 57) [(.t 57), (.t 58)]⟩,
    ⟨(some 13), none, .asn (.t 59)⟩]) (
 .seq (
  .seq (
   .reg none [⟨(some 60), none, .mv (.t 13)⟩,
     ⟨(some 61), none, .bin .lss (.t 60) (.c (.int .i64 (0)))⟩,
     ⟨(some 62), none, .mv (.t 61)⟩,
     ⟨(some 63), (some (62, false)), .ld 10 true (.t 11)⟩,
     ⟨(some 64), (some (62, false)), .ld 10 true (.t 8)⟩,
     ⟨(some 65), (some (62, false)), .call 12 [(.t 63), (.t 64)]⟩,
     ⟨(some 66), (some (62, false)), .not (.t 65)⟩,
     ⟨(some 67), none, .pick (.t 62) (.c (.bool true)) (.t 66)⟩,
     ⟨(some 68), none, .mv (.t 67)⟩,
     ⟨(some 69), (some (68, false)), .mv (.t 12)⟩,
     ⟨(some 70), (some (68, false)), .mv (.t 9)⟩,
     ⟨(some 71), (some (68, false)), .beq true (.t 69) (.t 70)⟩,
     ⟨(some 72), none, .pick (.t 68) (.c (.bool true)) (.t 71)⟩]) (
  .cond (.t 72) (
   .seq (
    .reg none [⟨(some 6), none, .asn (.c (.bool false))⟩]) (
   .ret)) (
   .skip))) (
 .seq (
  .reg none [⟨(some 14), none, .asn (.c (.int .i64 (1)))⟩]) (
 .seq (
  .reg none [⟨(some 73), none, .ld 10 true (.t 11)⟩,
    ⟨(some 74), none, .mv (.t 14)⟩,
    ⟨(some 75), none, .callr 13 (.t 73) [(.t 73), (.t 74)]⟩,
    ⟨(some 14), none, .asn (.t 75)⟩]) (
 .seq (
  .reg none [⟨(some 15), none, .asn (.c (.int .i64 (1)))⟩]) (
 .seq (
  .reg none [⟨(some 76), none, .ld 10 true (.t 11)⟩,
    ⟨(some 77), none, .mv (.t 15)⟩,
    ⟨(some 78), none, .call 14 [(.t 76), (.t 77)]⟩,
    ⟨(some 15), none, .asn (.t 78)⟩]) (
 .seq (
  .seq (
   .reg none [⟨(some 79), none, .mv (.t 15)⟩,
     ⟨(some 80), none, .bin .lss (.t 79) (.c (.int .i64 (0)))⟩]) (
  .cond (.t 80) (
   .seq (
    .reg none [⟨(some 6), none, .asn (.c (.bool false))⟩]) (
   .ret)) (
   .skip))) (
 .seq (
  .seq (
   .reg none [⟨(some 81), none, .mv (.t 15)⟩,
     ⟨(some 82), none, .mv (.t 14)⟩,
     ⟨(some 83), none, .bin .neq (.t 81) (.t 82)⟩]) (
  .cond (.t 83) (
   .seq (
    .reg none [⟨(some 6), none, .asn (.c (.bool false))⟩]) (
   .ret)) (
   .skip))) (
 .seq (
  .reg none [⟨(some 85), none, .ld 10 true (.t 3)⟩,
    ⟨(some 86), none, .call 29 [(.t 85)]⟩,
    ⟨(some 87), none, .mv (.t 1)⟩,
    ⟨(some 88), none, .mv (.t 2)⟩,
    ⟨(some 89), none, .call 46 [(.t 86), (.t 87), (.t 88)]⟩,
    ⟨(some 84), none, .mv (.t 89)⟩,
    ⟨(some 90), none, .ext 0 (.t 84)⟩,
    ⟨(some 91), none, .ext 1 (.t 84)⟩,
    ⟨(some 16), none, .alc 25 10 [(.int .i64 (0)), (.int .i64 (0)), (.int .i64 (0)), (.int .i64 (0)), (.int .i64 (0)), (.int .i64 (0)), (.int .i64 (0)), (.int .i64 (0)), (.ar true 133 10 []), (.ar true 102 3 [])]⟩,
    ⟨none, none, .st 10 false (.t 16) (.t 90)⟩,
    ⟨(some 17), none, .asn (.t 91)⟩]) (
 .seq (
  .seq (
   .reg none [⟨(some 92), none, .ld 10 true (.t 16)⟩,
     ⟨(some 93), none, .ld 10 true (.t 8)⟩,
     ⟨(some 94), none, .call 12 [(.t 92), (.t 93)]⟩,
     ⟨(some 95), none, .not (.t 94)⟩,
     ⟨(some 96), none, .mv (.t 95)⟩,
     ⟨(some 97), (some (96, false)), .mv (.t 17)⟩,
     ⟨(some 98), (some (96, false)), .mv (.t 9)⟩,
     ⟨(some 99), (some (96, false)), .beq true (.t 97) (.t 98)⟩,
     ⟨(some 100), none, .pick (.t 96) (.c (.bool true)) (.t 99)⟩]) (
  .cond (.t 100) (
   .seq (
    .reg none [⟨(some 6), none, .asn (.c (.bool false))⟩]) (
   .ret)) (
   .skip))) (
 .seq (
  .reg none [⟨(some 15), none, .asn (.c (.int .i64 (1)))⟩]) (
 .seq (
  .reg none [⟨(some 101), none, .ld 10 true (.t 11)⟩,
    ⟨(some 102), none, .mv (.t 15)⟩,
    ⟨(some 103), none, .call 14 [(.t 101), (.t 102)]⟩,
    ⟨(some 15), none, .asn (.t 103)⟩]) (
 .seq (
  .seq (
   .reg none [⟨(some 104), none, .mv (.t 15)⟩,
     ⟨(some 105), none, .bin .lss (.t 104) (.c (.int .i64 (0)))⟩]) (
  .cond (.t 105) (
   .seq (
    .reg none [⟨(some 6), none, .asn (.c (.bool false))⟩]) (
   .ret)) (
   .skip))) (
 .seq (
  .seq (
   .reg none [⟨(some 106), none, .mv (.t 15)⟩,
     ⟨(some 107), none, .mv (.t 14)⟩,
     ⟨(some 108), none, .bin .neq (.t 106) (.t 107)⟩]) (
  .cond (.t 108) (
   .seq (
    .reg none [⟨(some 6), none, .asn (.c (.bool false))⟩]) (
   .ret)) (
   .skip))) (
 .seq (
  .reg none [⟨(some 6), none, .asn (.c (.bool true))⟩]) (
 .ret))))))))))))))))))))))))))
def r_laws_FnExactFinish : Nat × List RV := (109, [.t 6])

theorem c_laws_FnExactFinish : cmpS PT PF PA (Try.prog.funcs[9]?) = some (r_laws_FnExactFinish.1, r_laws_FnExactFinish.2, stripK k_laws_FnExactFinish) := by kernel_rfl

set_option maxRecDepth 100000 in
theorem h_law_Finish (a : TTenant) (hla : lTenant a) (code : Int) (text : ByteArray) (htx : text.size < 2 ^ 63) : CallsF Try.prog 9 [.agg (sTenant a), aI code, aS text] (aB true) := by
  refine Prun c_laws_FnExactFinish (by simp [r_laws_FnExactFinish]) (by simp) ?_
  unfold k_laws_FnExactFinish r_laws_FnExactFinish
  have hsz1 := h_szTenant a 1048576 hla (by omega) (by omega)
  by_cases g0 : (1048576 : Int) < (text.size : Int)
  · simp [g0, aS, sTenant]
  simp [g0, aS, sTenant]
  refine callG_F hsz1 (by simp) ?_
  by_cases g1 : (1048576 : Int) < (wTenant a : Int)
  · simp [lft_neg g1]
  have e1 : lft 1048576 (wTenant a) = 1048576 - wTenant a := lft_pos (by omega)
  have n1 : ¬ (1048576 : Int) - wTenant a < 0 := by omega
  simp [e1, n1]
  have hta := h_toTenant a (by omega)
  have hs := h_spec_Finish a code text (by omega)
  have hi := h_impl_Finish a hla code text (by omega)
  have hw2 := fin_w a code text
  generalize finT a code text = T at *
  generalize finOk a code = B at *
  have b2 := uTenant_le T
  have b3 := uTenant_le a
  have hea := h_eqTenant a (by omega)
  have heT := h_eqTenant T (by omega)
  have hma := h_markTenant a 1 (by omega) (by omega) (by omega)
  have hmT := h_markTenant T 1 (by omega) (by omega) (by omega)
  have hhT := h_heldTenant T 1 (by omega) (by omega) (by omega)
  first | refine callG_F hta (by simp) ?_ | refine callOG_F hta (by simp) ?_ | refine gcal_F hta (by simp) ?_ | refine callRG_F hta rfl rfl (by simp) (by simp) ?_ | refine ⟨_, by simp, hta, ?_⟩
  try simp [rTenant]
  first | refine callG_F hs (by simp) ?_ | refine callOG_F hs (by simp) ?_ | refine gcal_F hs (by simp) ?_ | refine callRG_F hs rfl rfl (by simp) (by simp) ?_ | refine ⟨_, by simp, hs, ?_⟩
  try simp [rTenant]
  first | refine callG_F hta (by simp) ?_ | refine callOG_F hta (by simp) ?_ | refine gcal_F hta (by simp) ?_ | refine callRG_F hta rfl rfl (by simp) (by simp) ?_ | refine ⟨_, by simp, hta, ?_⟩
  try simp [rTenant]
  first | refine callG_F hi (by simp) ?_ | refine callOG_F hi (by simp) ?_ | refine gcal_F hi (by simp) ?_ | refine callRG_F hi rfl rfl (by simp) (by simp) ?_ | refine ⟨_, by simp, hi, ?_⟩
  try simp [rTenant]
  first | refine callG_F heT (by simp) ?_ | refine callOG_F heT (by simp) ?_ | refine gcal_F heT (by simp) ?_ | refine callRG_F heT rfl rfl (by simp) (by simp) ?_ | refine ⟨_, by simp, heT, ?_⟩
  try simp [rTenant]
  first | refine callG_F hta (by simp) ?_ | refine callOG_F hta (by simp) ?_ | refine gcal_F hta (by simp) ?_ | refine callRG_F hta rfl rfl (by simp) (by simp) ?_ | refine ⟨_, by simp, hta, ?_⟩
  try simp [rTenant]
  first | refine callG_F hea (by simp) ?_ | refine callOG_F hea (by simp) ?_ | refine gcal_F hea (by simp) ?_ | refine callRG_F hea rfl rfl (by simp) (by simp) ?_ | refine ⟨_, by simp, hea, ?_⟩
  try simp [rTenant]
  generalize uTenant.n a = na at *
  generalize uTenant.n T = nT at *
  have n2 : ¬ (1 + (na : Int) < 0) := by omega
  have n3 : ¬ (1 + (nT : Int) < 0) := by omega
  refine callMG_F (os' := [⟨133, 10, (uTenant.wr a 1).queue.map rJob⟩, ⟨102, 3, (uTenant.wr a 1).out.map rOutcome⟩]) hma (by simp [same]) (by simp) ?_
  simp [n2]
  first | refine callG_F heT (by simp) ?_ | refine callOG_F heT (by simp) ?_ | refine gcal_F heT (by simp) ?_ | refine callRG_F heT rfl rfl (by simp) (by simp) ?_ | refine ⟨_, by simp, heT, ?_⟩
  try simp [rTenant, n2, n3]
  refine callMG_F (os' := [⟨133, 10, (uTenant.wr T 1).queue.map rJob⟩, ⟨102, 3, (uTenant.wr T 1).out.map rOutcome⟩]) hmT (by simp [same]) (by simp) ?_
  simp [n2, n3]
  first | refine callG_F hhT (by simp) ?_ | refine callOG_F hhT (by simp) ?_ | refine gcal_F hhT (by simp) ?_ | refine callRG_F hhT rfl rfl (by simp) (by simp) ?_ | refine ⟨_, by simp, hhT, ?_⟩
  try simp [rTenant, n2, n3]
  first | refine callG_F hta (by simp) ?_ | refine callOG_F hta (by simp) ?_ | refine gcal_F hta (by simp) ?_ | refine callRG_F hta rfl rfl (by simp) (by simp) ?_ | refine ⟨_, by simp, hta, ?_⟩
  try simp [rTenant, n2, n3]
  first | refine callG_F hi (by simp) ?_ | refine callOG_F hi (by simp) ?_ | refine gcal_F hi (by simp) ?_ | refine callRG_F hi rfl rfl (by simp) (by simp) ?_ | refine ⟨_, by simp, hi, ?_⟩
  try simp [rTenant, n2, n3]
  first | refine callG_F heT (by simp) ?_ | refine callOG_F heT (by simp) ?_ | refine gcal_F heT (by simp) ?_ | refine callRG_F heT rfl rfl (by simp) (by simp) ?_ | refine ⟨_, by simp, heT, ?_⟩
  try simp [rTenant, n2, n3]
  first | refine callG_F hhT (by simp) ?_ | refine callOG_F hhT (by simp) ?_ | refine gcal_F hhT (by simp) ?_ | refine callRG_F hhT rfl rfl (by simp) (by simp) ?_ | refine ⟨_, by simp, hhT, ?_⟩
  try simp [rTenant, n2, n3]
end Go.Am
-- Err_sh
namespace Go.Am
open Go.Proofs
set_option maxHeartbeats 4000000
set_option maxRecDepth 100000
attribute [-simp] rSlot_len sSlot_len shr_rSlot shr_sSlot shrs_rSlot shrs_sSlot noSh_rSlot mSlot_wr mSlot_n rNode_len sNode_len shr_rNode shr_sNode shrs_rNode shrs_sNode noSh_rNode mNode_wr mNode_n rTree_len sTree_len shr_rTree shr_sTree shrs_rTree shrs_sTree noSh_rTree mTree_wr mTree_n rRun_len sRun_len shr_rRun shr_sRun shrs_rRun shrs_sRun noSh_rRun mRun_wr mRun_n rJob_len sJob_len shr_rJob shr_sJob shrs_rJob shrs_sJob noSh_rJob mJob_wr mJob_n rOutcome_len sOutcome_len shr_rOutcome shr_sOutcome shrs_rOutcome shrs_sOutcome noSh_rOutcome mOutcome_wr mOutcome_n rTenant_len sTenant_len shr_rTenant shr_sTenant shrs_rTenant shrs_sTenant noSh_rTenant mTenant_wr mTenant_n map_rs_Slot map_rs_Err map_rs_Outcome uTenant_wr uTenant_n rConf_len sConf_len shr_rConf shr_sConf shrs_rConf shrs_sConf noSh_rConf mConf_wr mConf_n rLine_len sLine_len shr_rLine shr_sLine shrs_rLine shrs_sLine noSh_rLine mLine_wr mLine_n rStore_len sStore_len shr_rStore shr_sStore shrs_rStore shrs_sStore noSh_rStore mStore_wr mStore_n uStore_wr uStore_n noSh_sOutcome noSh_sSlot noSh_sErr noSh_tenant
def shErr : List Sh := [.i, .i, .i]
theorem of_Err (x : List C) (h : inShs shErr x) : ∃ a : TErr, x = sErr a ∧ lErr a := by
  simp only [shErr, inShs] at h
  obtain ⟨c0, r0, rfl, h0, c1, r1, rfl, h1, c2, r2, rfl, h2, rfl⟩ := h
  simp only [inSh] at h0
  obtain ⟨n0, rfl, v0⟩ := h0
  simp only [inSh] at h1
  obtain ⟨n1, rfl, v1⟩ := h1
  simp only [inSh] at h2
  obtain ⟨n2, rfl, v2⟩ := h2
  refine ⟨⟨n0, n1, n2⟩, rfl, ?_⟩
  simp only [lErr]
end Go.Am
-- Node_sh
namespace Go.Am
open Go.Proofs
set_option maxHeartbeats 4000000
set_option maxRecDepth 100000
attribute [-simp] rErr_len sErr_len shr_rErr shr_sErr shrs_rErr shrs_sErr noSh_rErr mErr_wr mErr_n rSlot_len sSlot_len shr_rSlot shr_sSlot shrs_rSlot shrs_sSlot noSh_rSlot mSlot_wr mSlot_n rTree_len sTree_len shr_rTree shr_sTree shrs_rTree shrs_sTree noSh_rTree mTree_wr mTree_n rRun_len sRun_len shr_rRun shr_sRun shrs_rRun shrs_sRun noSh_rRun mRun_wr mRun_n rJob_len sJob_len shr_rJob shr_sJob shrs_rJob shrs_sJob noSh_rJob mJob_wr mJob_n rOutcome_len sOutcome_len shr_rOutcome shr_sOutcome shrs_rOutcome shrs_sOutcome noSh_rOutcome mOutcome_wr mOutcome_n rTenant_len sTenant_len shr_rTenant shr_sTenant shrs_rTenant shrs_sTenant noSh_rTenant mTenant_wr mTenant_n map_rs_Slot map_rs_Err map_rs_Outcome uTenant_wr uTenant_n rConf_len sConf_len shr_rConf shr_sConf shrs_rConf shrs_sConf noSh_rConf mConf_wr mConf_n rLine_len sLine_len shr_rLine shr_sLine shrs_rLine shrs_sLine noSh_rLine mLine_wr mLine_n rStore_len sStore_len shr_rStore shr_sStore shrs_rStore shrs_sStore noSh_rStore mStore_wr mStore_n uStore_wr uStore_n noSh_sOutcome noSh_sSlot noSh_sErr noSh_tenant
def shNode : List Sh := [.i, .i, .i, .i, .l 1 [.i]]
theorem of_Node (x : List C) (h : inShs shNode x) : ∃ a : TNode, x = sNode a ∧ lNode a := by
  simp only [shNode, inShs] at h
  obtain ⟨c0, r0, rfl, h0, c1, r1, rfl, h1, c2, r2, rfl, h2, c3, r3, rfl, h3, c4, r4, rfl, h4, rfl⟩ := h
  simp only [inSh] at h0
  obtain ⟨n0, rfl, v0⟩ := h0
  simp only [inSh] at h1
  obtain ⟨n1, rfl, v1⟩ := h1
  simp only [inSh] at h2
  obtain ⟨n2, rfl, v2⟩ := h2
  simp only [inSh] at h3
  obtain ⟨n3, rfl, v3⟩ := h3
  obtain ⟨n4, rfl, g4⟩ := of_sl of_int c4 h4
  refine ⟨⟨n0, n1, n2, n3, n4⟩, rfl, ?_⟩
  simp only [lNode]
  exact g4
end Go.Am
-- Slot_sh
namespace Go.Am
open Go.Proofs
set_option maxHeartbeats 4000000
set_option maxRecDepth 100000
attribute [-simp] rErr_len sErr_len shr_rErr shr_sErr shrs_rErr shrs_sErr noSh_rErr mErr_wr mErr_n rNode_len sNode_len shr_rNode shr_sNode shrs_rNode shrs_sNode noSh_rNode mNode_wr mNode_n rTree_len sTree_len shr_rTree shr_sTree shrs_rTree shrs_sTree noSh_rTree mTree_wr mTree_n rRun_len sRun_len shr_rRun shr_sRun shrs_rRun shrs_sRun noSh_rRun mRun_wr mRun_n rJob_len sJob_len shr_rJob shr_sJob shrs_rJob shrs_sJob noSh_rJob mJob_wr mJob_n rOutcome_len sOutcome_len shr_rOutcome shr_sOutcome shrs_rOutcome shrs_sOutcome noSh_rOutcome mOutcome_wr mOutcome_n rTenant_len sTenant_len shr_rTenant shr_sTenant shrs_rTenant shrs_sTenant noSh_rTenant mTenant_wr mTenant_n map_rs_Slot map_rs_Err map_rs_Outcome uTenant_wr uTenant_n rConf_len sConf_len shr_rConf shr_sConf shrs_rConf shrs_sConf noSh_rConf mConf_wr mConf_n rLine_len sLine_len shr_rLine shr_sLine shrs_rLine shrs_sLine noSh_rLine mLine_wr mLine_n rStore_len sStore_len shr_rStore shr_sStore shrs_rStore shrs_sStore noSh_rStore mStore_wr mStore_n uStore_wr uStore_n noSh_sOutcome noSh_sSlot noSh_sErr noSh_tenant
def shSlot : List Sh := [.i, .i]
theorem of_Slot (x : List C) (h : inShs shSlot x) : ∃ a : TSlot, x = sSlot a ∧ lSlot a := by
  simp only [shSlot, inShs] at h
  obtain ⟨c0, r0, rfl, h0, c1, r1, rfl, h1, rfl⟩ := h
  simp only [inSh] at h0
  obtain ⟨n0, rfl, v0⟩ := h0
  simp only [inSh] at h1
  obtain ⟨n1, rfl, v1⟩ := h1
  refine ⟨⟨n0, n1⟩, rfl, ?_⟩
  simp only [lSlot]
end Go.Am
-- Job_sh
namespace Go.Am
open Go.Proofs
set_option maxHeartbeats 4000000
set_option maxRecDepth 100000
attribute [-simp] rOutcome_len sOutcome_len shr_rOutcome shr_sOutcome shrs_rOutcome shrs_sOutcome noSh_rOutcome mOutcome_wr mOutcome_n rTenant_len sTenant_len shr_rTenant shr_sTenant shrs_rTenant shrs_sTenant noSh_rTenant mTenant_wr mTenant_n map_rs_Slot map_rs_Err map_rs_Outcome uTenant_wr uTenant_n rConf_len sConf_len shr_rConf shr_sConf shrs_rConf shrs_sConf noSh_rConf mConf_wr mConf_n rLine_len sLine_len shr_rLine shr_sLine shrs_rLine shrs_sLine noSh_rLine mLine_wr mLine_n rStore_len sStore_len shr_rStore shr_sStore shrs_rStore shrs_sStore noSh_rStore mStore_wr mStore_n uStore_wr uStore_n noSh_sOutcome noSh_sSlot noSh_sErr noSh_tenant
def shJob : List Sh := [.i, .i, .l 1 [.i], .i, .i, .i, .i, .l 2 shSlot, .l 5 shNode, .l 3 shErr]
theorem of_Job (x : List C) (h : inShs shJob x) : ∃ a : TJob, x = sJob a ∧ lJob a := by
  simp only [shJob, inShs] at h
  obtain ⟨c0, r0, rfl, h0, c1, r1, rfl, h1, c2, r2, rfl, h2, c3, r3, rfl, h3, c4, r4, rfl, h4, c5, r5, rfl, h5, c6, r6, rfl, h6, c7, r7, rfl, h7, c8, r8, rfl, h8, c9, r9, rfl, h9, rfl⟩ := h
  simp only [inSh] at h0
  obtain ⟨n0, rfl, v0⟩ := h0
  simp only [inSh] at h1
  obtain ⟨n1, rfl, v1⟩ := h1
  obtain ⟨n2, rfl, g2⟩ := of_sl of_int c2 h2
  simp only [inSh] at h3
  obtain ⟨n3, rfl, v3⟩ := h3
  simp only [inSh] at h4
  obtain ⟨n4, rfl, v4⟩ := h4
  simp only [inSh] at h5
  obtain ⟨n5, rfl, v5⟩ := h5
  simp only [inSh] at h6
  obtain ⟨n6, rfl, v6⟩ := h6
  obtain ⟨n7, rfl, g7⟩ := of_sl of_Slot c7 h7
  obtain ⟨n8, rfl, g8⟩ := of_sl of_Node c8 h8
  obtain ⟨n9, rfl, g9⟩ := of_sl of_Err c9 h9
  refine ⟨⟨n0, n1, n2, ⟨n3, n4, n5, n6, n7, ⟨n8⟩, n9⟩⟩, rfl, ?_⟩
  simp only [lJob, lRun, lTree]
  exact ⟨g2, ⟨g7, g8, g9⟩⟩
end Go.Am
-- Outcome_sh
namespace Go.Am
open Go.Proofs
set_option maxHeartbeats 4000000
set_option maxRecDepth 100000
attribute [-simp] rErr_len sErr_len shr_rErr shr_sErr shrs_rErr shrs_sErr noSh_rErr mErr_wr mErr_n rSlot_len sSlot_len shr_rSlot shr_sSlot shrs_rSlot shrs_sSlot noSh_rSlot mSlot_wr mSlot_n rNode_len sNode_len shr_rNode shr_sNode shrs_rNode shrs_sNode noSh_rNode mNode_wr mNode_n rTree_len sTree_len shr_rTree shr_sTree shrs_rTree shrs_sTree noSh_rTree mTree_wr mTree_n rRun_len sRun_len shr_rRun shr_sRun shrs_rRun shrs_sRun noSh_rRun mRun_wr mRun_n rJob_len sJob_len shr_rJob shr_sJob shrs_rJob shrs_sJob noSh_rJob mJob_wr mJob_n rTenant_len sTenant_len shr_rTenant shr_sTenant shrs_rTenant shrs_sTenant noSh_rTenant mTenant_wr mTenant_n map_rs_Slot map_rs_Err map_rs_Outcome uTenant_wr uTenant_n rConf_len sConf_len shr_rConf shr_sConf shrs_rConf shrs_sConf noSh_rConf mConf_wr mConf_n rLine_len sLine_len shr_rLine shr_sLine shrs_rLine shrs_sLine noSh_rLine mLine_wr mLine_n rStore_len sStore_len shr_rStore shr_sStore shrs_rStore shrs_sStore noSh_rStore mStore_wr mStore_n uStore_wr uStore_n noSh_sOutcome noSh_sSlot noSh_sErr noSh_tenant
def shOutcome : List Sh := [.i, .i, .s]
theorem of_Outcome (x : List C) (h : inShs shOutcome x) : ∃ a : TOutcome, x = sOutcome a ∧ lOutcome a := by
  simp only [shOutcome, inShs] at h
  obtain ⟨c0, r0, rfl, h0, c1, r1, rfl, h1, c2, r2, rfl, h2, rfl⟩ := h
  simp only [inSh] at h0
  obtain ⟨n0, rfl, v0⟩ := h0
  simp only [inSh] at h1
  obtain ⟨n1, rfl, v1⟩ := h1
  simp only [inSh] at h2
  obtain ⟨n2, rfl, g2⟩ := h2
  refine ⟨⟨n0, n1, n2⟩, rfl, ?_⟩
  simp only [lOutcome]
  exact g2
end Go.Am
-- Tenant_sh
namespace Go.Am
open Go.Proofs
set_option maxHeartbeats 4000000
set_option maxRecDepth 100000
attribute [-simp] map_rs_Slot map_rs_Err map_rs_Outcome uTenant_wr uTenant_n rConf_len sConf_len shr_rConf shr_sConf shrs_rConf shrs_sConf noSh_rConf mConf_wr mConf_n rLine_len sLine_len shr_rLine shr_sLine shrs_rLine shrs_sLine noSh_rLine mLine_wr mLine_n rStore_len sStore_len shr_rStore shr_sStore shrs_rStore shrs_sStore noSh_rStore mStore_wr mStore_n uStore_wr uStore_n noSh_sOutcome noSh_sSlot noSh_sErr noSh_tenant
def shTenant : List Sh := [.i, .i, .i, .i, .i, .i, .i, .i, .l 10 shJob, .l 3 shOutcome]
theorem of_Tenant (x : List C) (h : inShs shTenant x) : ∃ a : TTenant, x = sTenant a ∧ lTenant a := by
  simp only [shTenant, inShs] at h
  obtain ⟨c0, r0, rfl, h0, c1, r1, rfl, h1, c2, r2, rfl, h2, c3, r3, rfl, h3, c4, r4, rfl, h4, c5, r5, rfl, h5, c6, r6, rfl, h6, c7, r7, rfl, h7, c8, r8, rfl, h8, c9, r9, rfl, h9, rfl⟩ := h
  simp only [inSh] at h0
  obtain ⟨n0, rfl, v0⟩ := h0
  simp only [inSh] at h1
  obtain ⟨n1, rfl, v1⟩ := h1
  simp only [inSh] at h2
  obtain ⟨n2, rfl, v2⟩ := h2
  simp only [inSh] at h3
  obtain ⟨n3, rfl, v3⟩ := h3
  simp only [inSh] at h4
  obtain ⟨n4, rfl, v4⟩ := h4
  simp only [inSh] at h5
  obtain ⟨n5, rfl, v5⟩ := h5
  simp only [inSh] at h6
  obtain ⟨n6, rfl, v6⟩ := h6
  simp only [inSh] at h7
  obtain ⟨n7, rfl, v7⟩ := h7
  obtain ⟨n8, rfl, g8⟩ := of_sl of_Job c8 h8
  obtain ⟨n9, rfl, g9⟩ := of_sl of_Outcome c9 h9
  refine ⟨⟨n0, n1, n2, n3, n4, n5, n6, n7, n8, n9⟩, rfl, ?_⟩
  simp only [lTenant]
  exact ⟨g8, g9⟩
end Go.Am
-- B_FnExactFinish
namespace Go.Am
open Go.Proofs
set_option maxHeartbeats 4000000
set_option maxRecDepth 100000
open Go.ChangeShapes Go.WideShapes Go.ChangeAt Go.RowKit Go.Proofs.Ytfcbminodkjklaa
theorem own_FnExactFinish : ownKnob Try.prog.godebug = none := by kernel_rfl
theorem laidOut_FnExactFinish : laidOutB Try.prog = true := by kernel_rfl
set_option maxRecDepth 100000 in
theorem lifted_FnExactFinish (os : Os) (started : os.Started) (H : Type) (enc : TypeId × Value → H) :
    ReturnsInHanded {} Try.checked os 9 .any (Rows.fnExactFinishSpec.pre6 enc Try.prog Try.f9 Rows.fnExactFinishRow.domain false) (Rows.fnExactFinishSpec.post enc Try.prog Try.f9 false true false false) := by
  refine returnsInHanded_of_change (C := Try.checked) own_FnExactFinish started (by kernel_rfl) Try.func9
    (ChangeSpec.witness6 (enc := enc) (C := Try.checked) false ⟨#[], #[.agg #[.int .i64 0, .int .i64 0, .int .i64 0, .int .i64 0, .int .i64 0, .int .i64 0, .int .i64 0, .int .i64 0, .slice none 0 0, .slice none 0 0], .int .i64 0, .string ⟨#[]⟩], []⟩ 8 (by kernel_rfl) (by kernel_rfl) (by kernel_rfl) (by kernel_rfl)) ?_
  intro W base args ds gs before hval0 hW hcnd _
  have hval : ∀ (j : Nat) t v, Try.f9.params[j]? = some t → args[j]? = some v → Value.okWide Try.prog W .any base t v := hval0
  have hW' := hW
  obtain ⟨p, q, hA0, hV, rfl, hfz, hnd⟩ := hW
  have hA : DataW.TrodAll enc Try.prog W 0 (fun _ => true) true Try.f9.params.toList args.toList ds p := hA0
  rw [Try.params9] at hA hval
  obtain ⟨v0, v1, v2, d0, d1, d2, p0, p1, p2, rfl, rfl, rfl, h0, h1, h2⟩ := trodAll_three hA
  obtain ⟨rfl, rfl⟩ := trodVars_none hV
  have hV0 : ∀ (W' : World) (sp : Nat → Bool), DataW.TrodVars enc Try.checked.prog W' sp Rows.fnExactFinishSpec.vars ([] : List (DataW H)) [] := fun _ _ => by first | rfl | trivial | exact ⟨rfl, rfl⟩ | exact ⟨_, rfl, rfl⟩
  have hk0 := h0
  have hs0 : shT Try.prog 12 52 = some shTenant := by kernel_rfl
  obtain ⟨row0, hc0, hr0⟩ := arg_st (lc := fun _ => none) Try.underlying52 hs0 (hval 0 52 v0 rfl rfl) h0
  obtain ⟨x0, rfl, hl0⟩ := of_Tenant row0 hc0
  obtain ⟨a1, rfl, rfl, rfl, wa1⟩ := open_int Try.underlying3 (hval 1 3 v1 rfl rfl) h1
  have hk2 := h2
  obtain ⟨a2, rfl, ha2⟩ := arg_str Try.underlying9 (hval 2 9 v2 rfl rfl) h2
  clear hA0 hval0
  simp only [List.append_nil] at hW'
  refine (below_of (h_law_Finish x0 hl0 a1 a2 ha2) (fun _ _ _ _ h => h.1) W [v0, .int .i64 a1, .string a2] (by simp [sTenant, aI, aS, A.ref, C.ref, refCs]) ⟨_, _, fz, fz, rfl, (add_fz _).symm, hr0, ⟨_, _, fz, fz, rfl, (add_fz _).symm, ⟨rfl, rfl⟩, ⟨_, _, fz, fz, rfl, (add_fz _).symm, ⟨rfl, rfl⟩, ⟨rfl, rfl⟩⟩⟩⟩ rfl).mono fun e W' ⟨he, hw⟩ => ?_
  subst he
  exact ⟨_, rfl, [d0, .lit (.int .i64 a1), d2], [], _, [], _, [], by simpa using hW', trodAll_mk1 (shut_bool Try.underlying4 true), trodAll_mk3 (Below.trod laidOut_FnExactFinish (by kernel_rfl) (of_decide_eq_true (by kernel_rfl)) hk0 hw (fun x hx => by have := hW'.lt x (by simp [hx]); simpa using this)) (shut_int Try.underlying3 wa1) (Below.trod laidOut_FnExactFinish (by kernel_rfl) (of_decide_eq_true (by kernel_rfl)) hk2 hw (fun x hx => by have := hW'.lt x (by simp [hx]); simpa using this)), hV0 _ _, hw.frame _, fun h => by cases h⟩
theorem holds_FnExactFinish : Rows.FnExactFinishSaid :=
  OpenClaim.holds_of_wide 9 Try.f9 rfl rfl rfl rfl rfl rfl rfl ⟨rfl, rfl, rfl, rfl, rfl⟩ rfl rfl rfl rfl rfl (by kernel_rfl) Try.func9 (by kernel_rfl)
    (of_decide_eq_true (by kernel_rfl)) (by unfold Func.isWrapper; first | (rw [if_pos (by decide +kernel)]; kernel_rfl) | (rw [if_neg (by decide +kernel)]; exact ⟨rfl, rfl⟩))
    (fun os started H enc _ => lifted_FnExactFinish os started H enc)
#print axioms holds_FnExactFinish
end Go.Am
namespace Go.Proofs.Ytfcbminodkjklaa
theorem fnExactFinish_holds : Rows.FnExactFinishSaid := Go.Am.holds_FnExactFinish
end Go.Proofs.Ytfcbminodkjklaa
