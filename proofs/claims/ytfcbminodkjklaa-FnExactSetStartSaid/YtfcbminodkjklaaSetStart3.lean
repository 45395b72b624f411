/- PROVED: what the program and the reference close at the start of a part: the same set of confs, or none -/
import Derived.Test.YtfcbminodkjklaaSetStart2
import Derived.Test.YtfcbminodkjklaaRows
import Derived.ProofKit
set_option linter.unusedVariables false
set_option linter.unusedSimpArgs false
-- IntSSS_to
namespace Go.Am
open Go.Proofs
set_option maxHeartbeats 4000000
set_option maxRecDepth 100000
attribute [-simp] BitVec.toNat_or BitVec.toNat_and BitVec.toNat_ofInt
attribute [-simp] rConf_len sConf_len shr_rConf shr_sConf shrs_rConf shrs_sConf noSh_rConf mConf_wr mConf_n rGram_len sGram_len shr_rGram shr_sGram shrs_rGram shrs_sGram noSh_rGram mGram_wr mGram_n cS_t cS_f row20_len row20_sc row20_view row20_store row20_aff row20_ref row20_noSh row20_shr row20_lend row20_take row20_drop rB_len setR_noSh rErr_len sErr_len shr_rErr shr_sErr shrs_rErr shrs_sErr noSh_rErr mErr_wr mErr_n rSlot_len sSlot_len shr_rSlot shr_sSlot shrs_rSlot shrs_sSlot noSh_rSlot mSlot_wr mSlot_n rNode_len sNode_len shr_rNode shr_sNode shrs_rNode shrs_sNode noSh_rNode mNode_wr mNode_n rTree_len sTree_len shr_rTree shr_sTree shrs_rTree shrs_sTree noSh_rTree mTree_wr mTree_n rRun_len sRun_len shr_rRun shr_sRun shrs_rRun shrs_sRun noSh_rRun mRun_wr mRun_n rJob_len sJob_len shr_rJob shr_sJob shrs_rJob shrs_sJob noSh_rJob mJob_wr mJob_n rOutcome_len sOutcome_len shr_rOutcome shr_sOutcome shrs_rOutcome shrs_sOutcome noSh_rOutcome mOutcome_wr mOutcome_n rTenant_len sTenant_len shr_rTenant shr_sTenant shrs_rTenant shrs_sTenant noSh_rTenant mTenant_wr mTenant_n uTenant_wr uTenant_n rLine_len sLine_len shr_rLine shr_sLine shrs_rLine shrs_sLine noSh_rLine mLine_wr mLine_n rStore_len sStore_len shr_rStore shr_sStore shrs_rStore shrs_sStore noSh_rStore mStore_wr mStore_n uStore_wr uStore_n noSh_sOutcome noSh_sSlot noSh_sErr noSh_tenant
-- 57 loop.example/g00485/laws.toIntSSS
def k_laws_toIntSSS : K :=
 .seq (
  .reg none [⟨(some 2), none, .asn (.c (.ar true 90 1 []))⟩]) (
 .seq (
  .reg none [⟨(some 5), none, .mv (.t 0)⟩,
    ⟨(some 6), none, .len (.t 5)⟩,
    ⟨(some 7), none, .mks 90 1 24 [(.ar true 34 1 [])] (.t 6) (.t 6)⟩,
    ⟨(some 3), none, .asn (.t 7)⟩]) (
 .seq (
  .seq (
   .reg none [⟨(some 4), none, .asn (.c (.int .i64 (0)))⟩]) (
  .block 0 (
   .loop (some ([0, 3, 4], [0, 3, 4, 1000])) (
    .seq (
     .seq (
      .reg none [⟨(some 8), none, .mv (.t 4)⟩,
        ⟨(some 9), none, .mv (.t 0)⟩,
        ⟨(some 10), none, .len (.t 9)⟩,
        ⟨(some 11), none, .bin .lss (.t 8) (.t 10)⟩]) (
     .cond (.t 11) (
      .skip) (
      .exit 0))) (
    .seq (
     .block 1 (
      .reg none [⟨(some 14), none, .mv (.t 3)⟩,
        ⟨(some 15), none, .mv (.t 4)⟩,
        ⟨(some 16), none, .mv (.t 0)⟩,
        ⟨(some 17), none, .mv (.t 4)⟩,
        ⟨(some 18), none, .iad 1 (.t 16) (.t 17)⟩,
        ⟨(some 19), none, .ld 1 false (.t 18)⟩,
        ⟨(some 20), none, .call 111 [(.t 19)]⟩,
        ⟨(some 21), none, .iad 1 (.t 14) (.t 15)⟩,
        ⟨none, none, .st 1 false (.t 21) (.t 20)⟩])) (
    .reg none [⟨(some 12), none, .mv (.t 4)⟩,
      ⟨(some 13), none, .bin .add (.t 12) (.c (.int .i64 (1)))⟩,
      ⟨(some 4), none, .asn (.t 13)⟩])))))) (
 .seq (
  .reg none [⟨(some 22), none, .mv (.t 3)⟩,
    ⟨(some 2), none, .asn (.t 22)⟩]) (
 .ret))))
def r_laws_toIntSSS : Nat × List RV := (23, [.t 2])

theorem c_laws_toIntSSS : cmpS PT PF PA (Try.prog.funcs[57]?) = some (r_laws_toIntSSS.1, r_laws_toIntSSS.2, stripK k_laws_toIntSSS) := by kernel_rfl

theorem h_toIntSSS (xs : List (List (List Int))) (hx : wL (wL (wL w0)) xs < 2 ^ 31) : CallsF Try.prog 57 [.one (.ar false 0 1 (xs.map sISS))] (.one (.ar true 90 1 (xs.map rISS))) := by
  refine Prun c_laws_toIntSSS (by simp [r_laws_toIntSSS]) (by simp) ?_
  unfold k_laws_toIntSSS r_laws_toIntSSS
  have hlen := wL_len (wL (wL w0)) xs
  have hc : ((xs.length : Int) ≤ 4294967296) := by omega
  simp [hc]
  refine awp_loop (fun n σ => ∃ i : Nat, i ≤ xs.length ∧ n = xs.length - i ∧ σ = ⟨[(0, .one (.ar false 0 1 (xs.map sISS))), (3, .one (.vw 90 1 3 [] 0 xs.length)), (4, aI i)], [(3, ⟨90, 1, part rISS zISS xs i⟩)]⟩) (xs.length) ⟨0, by simp [part_zero, zISS]⟩ ?_
  rintro n σ ⟨i, hi, rfl, rfl⟩
  by_cases h : i < xs.length
  · have hw := wL_get (wL (wL w0)) xs i h
    have := part_set (r := rISS) (z := zISS) h
    simp [h, sISS]
    refine callG_F (h_toIntSS xs[i] (by omega)) (by simp) ?_
    simp [h, part_get h, rISS, zISS]
    refine ⟨xs.length - (i + 1), by omega, i + 1, by omega, rfl, ?_⟩
    rw [wrapI (by omega) (by omega)]
    simp only [rISS, zISS] at this
    simp [rISS, zISS, this]
  · have : i = xs.length := by omega
    subst this
    simp [part_all]
end Go.Am
-- Gram_to1
namespace Go.Am
open Go.Proofs
set_option maxHeartbeats 4000000
set_option maxRecDepth 100000
attribute [-simp] BitVec.toNat_or BitVec.toNat_and BitVec.toNat_ofInt
attribute [-simp] rConf_len sConf_len shr_rConf shr_sConf shrs_rConf shrs_sConf noSh_rConf mConf_wr mConf_n cS_t cS_f row20_len row20_sc row20_view row20_store row20_aff row20_ref row20_noSh row20_shr row20_lend row20_take row20_drop rB_len setR_noSh rErr_len sErr_len shr_rErr shr_sErr shrs_rErr shrs_sErr noSh_rErr mErr_wr mErr_n rSlot_len sSlot_len shr_rSlot shr_sSlot shrs_rSlot shrs_sSlot noSh_rSlot mSlot_wr mSlot_n rNode_len sNode_len shr_rNode shr_sNode shrs_rNode shrs_sNode noSh_rNode mNode_wr mNode_n rTree_len sTree_len shr_rTree shr_sTree shrs_rTree shrs_sTree noSh_rTree mTree_wr mTree_n rRun_len sRun_len shr_rRun shr_sRun shrs_rRun shrs_sRun noSh_rRun mRun_wr mRun_n rJob_len sJob_len shr_rJob shr_sJob shrs_rJob shrs_sJob noSh_rJob mJob_wr mJob_n rOutcome_len sOutcome_len shr_rOutcome shr_sOutcome shrs_rOutcome shrs_sOutcome noSh_rOutcome mOutcome_wr mOutcome_n rTenant_len sTenant_len shr_rTenant shr_sTenant shrs_rTenant shrs_sTenant noSh_rTenant mTenant_wr mTenant_n uTenant_wr uTenant_n rLine_len sLine_len shr_rLine shr_sLine shrs_rLine shrs_sLine noSh_rLine mLine_wr mLine_n rStore_len sStore_len shr_rStore shr_sStore shrs_rStore shrs_sStore noSh_rStore mStore_wr mStore_n uStore_wr uStore_n noSh_sOutcome noSh_sSlot noSh_sErr noSh_tenant
-- 17 loop.example/g00485/laws.toGram
def k_laws_toGram : K :=
 .seq (
  .reg none [⟨(some 1), none, .box 33 1 (.t 0)⟩,
    ⟨(some 2), none, .alc 39 1 [(.ar true 90 1 [])]⟩]) (
 .seq (
  .reg none [⟨(some 3), none, .alc 39 1 [(.ar true 90 1 [])]⟩]) (
 .seq (
  .reg none [⟨(some 4), none, .fad 0 (.t 1)⟩,
    ⟨(some 5), none, .ld 1 false (.t 4)⟩,
    ⟨(some 6), none, .call 57 [(.t 5)]⟩,
    ⟨(some 7), none, .fad 0 (.t 3)⟩,
    ⟨none, none, .st 1 false (.t 7) (.t 6)⟩]) (
 .seq (
  .reg none [⟨(some 8), none, .ld 1 true (.t 3)⟩,
    ⟨none, none, .st 1 false (.t 2) (.t 8)⟩]) (
 .ret))))
def r_laws_toGram : Nat × List RV := (9, [.c 2 1 true])

theorem c_laws_toGram : cmpS PT PF PA (Try.prog.funcs[17]?) = some (r_laws_toGram.1, r_laws_toGram.2, stripK k_laws_toGram) := by kernel_rfl

theorem h_toGram (a : TGram) (ha : wGram a < 2 ^ 31) : CallsF Try.prog 17 [.agg (sGram a)] (.agg (rGram a)) := by
  refine Prun c_laws_toGram (by simp [r_laws_toGram]) (by simp) ?_
  unfold k_laws_toGram r_laws_toGram
  simp only [wGram] at ha
  simp [sGram]
  refine callG_F (h_toIntSSS a.parts (by omega)) (by simp) ?_
  simp [rGram]
end Go.Am
-- intm
namespace Go.Am
open Go.Proofs
set_option maxHeartbeats 4000000
set_option maxRecDepth 100000
attribute [-simp] BitVec.toNat_or BitVec.toNat_and BitVec.toNat_ofInt
attribute [-simp] rConf_len sConf_len shr_rConf shr_sConf shrs_rConf shrs_sConf noSh_rConf mConf_wr mConf_n rIS_len sIS_len shr_rIS shr_sIS shrs_rIS shrs_sIS noSh_rIS rISS_len sISS_len shr_rISS shr_sISS shrs_rISS shrs_sISS noSh_rISS rGram_len sGram_len shr_rGram shr_sGram shrs_rGram shrs_sGram noSh_rGram mGram_wr mGram_n cS_t cS_f row20_len row20_sc row20_view row20_store row20_aff row20_ref row20_noSh row20_shr row20_lend row20_take row20_drop rB_len setR_noSh rErr_len sErr_len shr_rErr shr_sErr shrs_rErr shrs_sErr noSh_rErr mErr_wr mErr_n rSlot_len sSlot_len shr_rSlot shr_sSlot shrs_rSlot shrs_sSlot noSh_rSlot mSlot_wr mSlot_n rNode_len sNode_len shr_rNode shr_sNode shrs_rNode shrs_sNode noSh_rNode mNode_wr mNode_n rTree_len sTree_len shr_rTree shr_sTree shrs_rTree shrs_sTree noSh_rTree mTree_wr mTree_n rRun_len sRun_len shr_rRun shr_sRun shrs_rRun shrs_sRun noSh_rRun mRun_wr mRun_n rJob_len sJob_len shr_rJob shr_sJob shrs_rJob shrs_sJob noSh_rJob mJob_wr mJob_n rOutcome_len sOutcome_len shr_rOutcome shr_sOutcome shrs_rOutcome shrs_sOutcome noSh_rOutcome mOutcome_wr mOutcome_n rTenant_len sTenant_len shr_rTenant shr_sTenant shrs_rTenant shrs_sTenant noSh_rTenant mTenant_wr mTenant_n uTenant_wr uTenant_n rLine_len sLine_len shr_rLine shr_sLine shrs_rLine shrs_sLine noSh_rLine mLine_wr mLine_n rStore_len sStore_len shr_rStore shr_sStore shrs_rStore shrs_sStore noSh_rStore mStore_wr mStore_n uStore_wr uStore_n noSh_sOutcome noSh_sSlot noSh_sErr noSh_tenant
-- 127 loop.example/g00485/laws.szIntS
def k_laws_szIntS : K :=
 .seq (
  .reg none [⟨(some 4), none, .asn (.c (.int .i64 (0)))⟩]) (
 .seq (
  .reg none [⟨(some 5), none, .mv (.t 1)⟩,
    ⟨(some 6), none, .mv (.t 0)⟩,
    ⟨(some 7), none, .len (.t 6)⟩,
    ⟨(some 8), none, .bin .sub (.t 5) (.t 7)⟩,
    ⟨(some 1), none, .asn (.t 8)⟩]) (
 .seq (
  .seq (
   .reg none [⟨(some 9), none, .mv (.t 1)⟩,
     ⟨(some 10), none, .bin .lss (.t 9) (.c (.int .i64 (0)))⟩]) (
  .cond (.t 10) (
   .seq (
    .reg none [⟨(some 4), none, .asn (.c (.int .i64 (-1)))⟩]) (
   .ret)) (
   .skip))) (
 .seq (
  .reg none [⟨(some 11), none, .mv (.t 1)⟩,
    ⟨(some 4), none, .asn (.t 11)⟩]) (
 .ret))))
def r_laws_szIntS : Nat × List RV := (12, [.t 4])

theorem c_laws_szIntS : cmpS PT PF PA (Try.prog.funcs[127]?) = some (r_laws_szIntS.1, r_laws_szIntS.2, stripK k_laws_szIntS) := by kernel_rfl

theorem h_szIntS (xs : List Int) (left : Int) (h : lL l0 xs) (h2 : 0 ≤ left) (h3 : left < 2 ^ 40) : CallsF Try.prog 127 [.one (.ar false 0 1 (xs.map rI)), aI left] (aI (lft left (wL w0 xs))) := by
  refine Prun c_laws_szIntS (by simp [r_laws_szIntS]) (by simp) ?_
  unfold k_laws_szIntS r_laws_szIntS
  have h := h.1
  rw [wL_w0, lft]
  have hw : IntKind.i64.wrap (left - xs.length) = left - xs.length := wrapI (by omega) (by omega)
  by_cases h : left - xs.length < 0
  · simp [hw, h]
  · simp [hw, h]
end Go.Am
-- IntSS_sz
namespace Go.Am
open Go.Proofs
set_option maxHeartbeats 4000000
set_option maxRecDepth 100000
attribute [-simp] BitVec.toNat_or BitVec.toNat_and BitVec.toNat_ofInt
attribute [-simp] rConf_len sConf_len shr_rConf shr_sConf shrs_rConf shrs_sConf noSh_rConf mConf_wr mConf_n rISS_len sISS_len shr_rISS shr_sISS shrs_rISS shrs_sISS noSh_rISS rGram_len sGram_len shr_rGram shr_sGram shrs_rGram shrs_sGram noSh_rGram mGram_wr mGram_n cS_t cS_f row20_len row20_sc row20_view row20_store row20_aff row20_ref row20_noSh row20_shr row20_lend row20_take row20_drop rB_len setR_noSh rErr_len sErr_len shr_rErr shr_sErr shrs_rErr shrs_sErr noSh_rErr mErr_wr mErr_n rSlot_len sSlot_len shr_rSlot shr_sSlot shrs_rSlot shrs_sSlot noSh_rSlot mSlot_wr mSlot_n rNode_len sNode_len shr_rNode shr_sNode shrs_rNode shrs_sNode noSh_rNode mNode_wr mNode_n rTree_len sTree_len shr_rTree shr_sTree shrs_rTree shrs_sTree noSh_rTree mTree_wr mTree_n rRun_len sRun_len shr_rRun shr_sRun shrs_rRun shrs_sRun noSh_rRun mRun_wr mRun_n rJob_len sJob_len shr_rJob shr_sJob shrs_rJob shrs_sJob noSh_rJob mJob_wr mJob_n rOutcome_len sOutcome_len shr_rOutcome shr_sOutcome shrs_rOutcome shrs_sOutcome noSh_rOutcome mOutcome_wr mOutcome_n rTenant_len sTenant_len shr_rTenant shr_sTenant shrs_rTenant shrs_sTenant noSh_rTenant mTenant_wr mTenant_n uTenant_wr uTenant_n rLine_len sLine_len shr_rLine shr_sLine shrs_rLine shrs_sLine noSh_rLine mLine_wr mLine_n rStore_len sStore_len shr_rStore shr_sStore shrs_rStore shrs_sStore noSh_rStore mStore_wr mStore_n uStore_wr uStore_n noSh_sOutcome noSh_sSlot noSh_sErr noSh_tenant
-- 104 loop.example/g00485/laws.szIntSS
def k_laws_szIntSS : K :=
 .seq (
  .reg none [⟨(some 4), none, .asn (.c (.int .i64 (0)))⟩]) (
 .seq (
  .reg none [⟨(some 6), none, .mv (.t 1)⟩,
    ⟨(some 7), none, .mv (.t 0)⟩,
    ⟨(some 8), none, .len (.t 7)⟩,
    ⟨(some 9), none, .bin .sub (.t 6) (.t 8)⟩,
    ⟨(some 1), none, .asn (.t 9)⟩]) (
 .seq (
  .seq (
   .reg none [⟨(some 10), none, .mv (.t 1)⟩,
     ⟨(some 11), none, .bin .lss (.t 10) (.c (.int .i64 (0)))⟩]) (
  .cond (.t 11) (
   .seq (
    .reg none [⟨(some 4), none, .asn (.c (.int .i64 (-1)))⟩]) (
   .ret)) (
   .skip))) (
 .seq (
  .seq (
   .reg none [⟨(some 5), none, .asn (.c (.int .i64 (0)))⟩]) (
  .block 0 (
   .loop (some ([0, 1, 5], [0, 1, 5, 1000])) (
    .seq (
     .seq (
      .reg none [⟨(some 12), none, .mv (.t 5)⟩,
        ⟨(some 13), none, .mv (.t 0)⟩,
        ⟨(some 14), none, .len (.t 13)⟩,
        ⟨(some 15), none, .bin .lss (.t 12) (.t 14)⟩]) (
     .cond (.t 15) (
      .skip) (
      .exit 0))) (
    .seq (
     .block 1 (
      .seq (
       .reg none [⟨(some 18), none, .mv (.t 0)⟩,
         ⟨(some 19), none, .mv (.t 5)⟩,
         ⟨(some 20), none, .iad 1 (.t 18) (.t 19)⟩,
         ⟨(some 21), none, .ld 1 false (.t 20)⟩,
         ⟨(some 22), none, .mv (.t 1)⟩,
         ⟨(some 23), none, .call 127 [(.t 21), (.t 22)]⟩,
         ⟨(some 1), none, .asn (.t 23)⟩]) (
      .seq (
       .reg none [⟨(some 24), none, .mv (.t 1)⟩,
         ⟨(some 25), none, .bin .lss (.t 24) (.c (.int .i64 (0)))⟩]) (
      .cond (.t 25) (
       .seq (
        .reg none [⟨(some 4), none, .asn (.c (.int .i64 (-1)))⟩]) (
       .ret)) (
       .skip))))) (
    .reg none [⟨(some 16), none, .mv (.t 5)⟩,
      ⟨(some 17), none, .bin .add (.t 16) (.c (.int .i64 (1)))⟩,
      ⟨(some 5), none, .asn (.t 17)⟩])))))) (
 .seq (
  .reg none [⟨(some 26), none, .mv (.t 1)⟩,
    ⟨(some 4), none, .asn (.t 26)⟩]) (
 .ret)))))
def r_laws_szIntSS : Nat × List RV := (27, [.t 4])

theorem c_laws_szIntSS : cmpS PT PF PA (Try.prog.funcs[104]?) = some (r_laws_szIntSS.1, r_laws_szIntSS.2, stripK k_laws_szIntSS) := by kernel_rfl

theorem h_szIntSS (xs : List (List Int)) (left : Int) (hl : lL (lL l0) xs) (h2 : 0 ≤ left) (h3 : left < 2 ^ 40) : CallsF Try.prog 104 [.one (.ar false 0 1 (xs.map sIS)), aI left] (aI (lft left (wL (wL w0) xs))) := by
  refine Prun c_laws_szIntSS (by simp [r_laws_szIntSS]) (by simp) ?_
  unfold k_laws_szIntSS r_laws_szIntSS
  have hlen := hl.1
  have hlw := wL_len (wL w0) xs
  have w1 : IntKind.i64.wrap (left - xs.length) = left - xs.length := wrapI (by omega) (by omega)
  by_cases h1 : left - (xs.length : Int) < 0
  · rw [lft_neg (by omega)]
    simp [w1, h1]
  simp [w1, h1]
  refine awp_loop (fun n σ => ∃ i : Nat, i ≤ xs.length ∧ n = xs.length - i ∧ (wL (wL w0) (xs.take i) : Int) - i ≤ left - xs.length ∧ σ = ⟨[(0, .one (.ar false 0 1 (xs.map sIS))), (1, aI (left - xs.length - ((wL (wL w0) (xs.take i) : Int) - i))), (5, aI i)], []⟩) (xs.length) ⟨0, by simp [wL]; omega⟩ ?_
  rintro n σ ⟨i, hi, rfl, hle, rfl⟩
  have hge := wL_len (wL w0) (xs.take i)
  rw [List.length_take, Nat.min_eq_left hi] at hge
  by_cases h : i < xs.length
  · have hst := wL_take (wL w0) h
    have hle2 := wL_take_le (wL w0) xs (i + 1)
    have hlen2 := wL_len (wL w0) (xs.drop (i + 1))
    have happ := wL_append (wL w0) (xs.take (i + 1)) (xs.drop (i + 1))
    rw [List.take_append_drop] at happ
    rw [List.length_drop] at hlen2
    simp [h, sIS]
    refine callG_F (h_szIntS xs[i] _ (hl.2 i h) (by omega) (by omega)) (by simp) ?_
    generalize hv : left - (xs.length : Int) - ((wL (wL w0) (xs.take i) : Int) - i) = v at *
    by_cases h4 : v < ((wL w0) xs[i] : Int)
    · simp only [lft_neg h4]
      rw [lft_neg (by omega)]
      simp
    · have e : lft v ((wL w0) xs[i]) = v - (wL w0) xs[i] := lft_pos (by omega)
      have n1 : ¬ v - ((wL w0) xs[i] : Int) < 0 := by omega
      simp [e, n1]
      refine ⟨xs.length - (i + 1), by omega, i + 1, by omega, rfl, by omega, ?_⟩
      rw [wrapI (by omega) (by omega)]
      simp; omega
  · have : i = xs.length := by omega
    subst this
    rw [List.take_length] at hle
    rw [lft_pos (by omega)]
    simp
    omega
end Go.Am
-- IntSSS_sz
namespace Go.Am
open Go.Proofs
set_option maxHeartbeats 4000000
set_option maxRecDepth 100000
attribute [-simp] BitVec.toNat_or BitVec.toNat_and BitVec.toNat_ofInt
attribute [-simp] rConf_len sConf_len shr_rConf shr_sConf shrs_rConf shrs_sConf noSh_rConf mConf_wr mConf_n rGram_len sGram_len shr_rGram shr_sGram shrs_rGram shrs_sGram noSh_rGram mGram_wr mGram_n cS_t cS_f row20_len row20_sc row20_view row20_store row20_aff row20_ref row20_noSh row20_shr row20_lend row20_take row20_drop rB_len setR_noSh rErr_len sErr_len shr_rErr shr_sErr shrs_rErr shrs_sErr noSh_rErr mErr_wr mErr_n rSlot_len sSlot_len shr_rSlot shr_sSlot shrs_rSlot shrs_sSlot noSh_rSlot mSlot_wr mSlot_n rNode_len sNode_len shr_rNode shr_sNode shrs_rNode shrs_sNode noSh_rNode mNode_wr mNode_n rTree_len sTree_len shr_rTree shr_sTree shrs_rTree shrs_sTree noSh_rTree mTree_wr mTree_n rRun_len sRun_len shr_rRun shr_sRun shrs_rRun shrs_sRun noSh_rRun mRun_wr mRun_n rJob_len sJob_len shr_rJob shr_sJob shrs_rJob shrs_sJob noSh_rJob mJob_wr mJob_n rOutcome_len sOutcome_len shr_rOutcome shr_sOutcome shrs_rOutcome shrs_sOutcome noSh_rOutcome mOutcome_wr mOutcome_n rTenant_len sTenant_len shr_rTenant shr_sTenant shrs_rTenant shrs_sTenant noSh_rTenant mTenant_wr mTenant_n uTenant_wr uTenant_n rLine_len sLine_len shr_rLine shr_sLine shrs_rLine shrs_sLine noSh_rLine mLine_wr mLine_n rStore_len sStore_len shr_rStore shr_sStore shrs_rStore shrs_sStore noSh_rStore mStore_wr mStore_n uStore_wr uStore_n noSh_sOutcome noSh_sSlot noSh_sErr noSh_tenant
-- 52 loop.example/g00485/laws.szIntSSS
def k_laws_szIntSSS : K :=
 .seq (
  .reg none [⟨(some 4), none, .asn (.c (.int .i64 (0)))⟩]) (
 .seq (
  .reg none [⟨(some 6), none, .mv (.t 1)⟩,
    ⟨(some 7), none, .mv (.t 0)⟩,
    ⟨(some 8), none, .len (.t 7)⟩,
    ⟨(some 9), none, .bin .sub (.t 6) (.t 8)⟩,
    ⟨(some 1), none, .asn (.t 9)⟩]) (
 .seq (
  .seq (
   .reg none [⟨(some 10), none, .mv (.t 1)⟩,
     ⟨(some 11), none, .bin .lss (.t 10) (.c (.int .i64 (0)))⟩]) (
  .cond (.t 11) (
   .seq (
    .reg none [⟨(some 4), none, .asn (.c (.int .i64 (-1)))⟩]) (
   .ret)) (
   .skip))) (
 .seq (
  .seq (
   .reg none [⟨(some 5), none, .asn (.c (.int .i64 (0)))⟩]) (
  .block 0 (
   .loop (some ([0, 1, 5], [0, 1, 5, 1000])) (
    .seq (
     .seq (
      .reg none [⟨(some 12), none, .mv (.t 5)⟩,
        ⟨(some 13), none, .mv (.t 0)⟩,
        ⟨(some 14), none, .len (.t 13)⟩,
        ⟨(some 15), none, .bin .lss (.t 12) (.t 14)⟩]) (
     .cond (.t 15) (
      .skip) (
      .exit 0))) (
    .seq (
     .block 1 (
      .seq (
       .reg none [⟨(some 18), none, .mv (.t 0)⟩,
         ⟨(some 19), none, .mv (.t 5)⟩,
         ⟨(some 20), none, .iad 1 (.t 18) (.t 19)⟩,
         ⟨(some 21), none, .ld 1 false (.t 20)⟩,
         ⟨(some 22), none, .mv (.t 1)⟩,
         ⟨(some 23), none, .call 104 [(.t 21), (.t 22)]⟩,
         ⟨(some 1), none, .asn (.t 23)⟩]) (
      .seq (
       .reg none [⟨(some 24), none, .mv (.t 1)⟩,
         ⟨(some 25), none, .bin .lss (.t 24) (.c (.int .i64 (0)))⟩]) (
      .cond (.t 25) (
       .seq (
        .reg none [⟨(some 4), none, .asn (.c (.int .i64 (-1)))⟩]) (
       .ret)) (
       .skip))))) (
    .reg none [⟨(some 16), none, .mv (.t 5)⟩,
      ⟨(some 17), none, .bin .add (.t 16) (.c (.int .i64 (1)))⟩,
      ⟨(some 5), none, .asn (.t 17)⟩])))))) (
 .seq (
  .reg none [⟨(some 26), none, .mv (.t 1)⟩,
    ⟨(some 4), none, .asn (.t 26)⟩]) (
 .ret)))))
def r_laws_szIntSSS : Nat × List RV := (27, [.t 4])

theorem c_laws_szIntSSS : cmpS PT PF PA (Try.prog.funcs[52]?) = some (r_laws_szIntSSS.1, r_laws_szIntSSS.2, stripK k_laws_szIntSSS) := by kernel_rfl

theorem h_szIntSSS (xs : List (List (List Int))) (left : Int) (hl : lL (lL (lL l0)) xs) (h2 : 0 ≤ left) (h3 : left < 2 ^ 40) : CallsF Try.prog 52 [.one (.ar false 0 1 (xs.map sISS)), aI left] (aI (lft left (wL (wL (wL w0)) xs))) := by
  refine Prun c_laws_szIntSSS (by simp [r_laws_szIntSSS]) (by simp) ?_
  unfold k_laws_szIntSSS r_laws_szIntSSS
  have hlen := hl.1
  have hlw := wL_len (wL (wL w0)) xs
  have w1 : IntKind.i64.wrap (left - xs.length) = left - xs.length := wrapI (by omega) (by omega)
  by_cases h1 : left - (xs.length : Int) < 0
  · rw [lft_neg (by omega)]
    simp [w1, h1]
  simp [w1, h1]
  refine awp_loop (fun n σ => ∃ i : Nat, i ≤ xs.length ∧ n = xs.length - i ∧ (wL (wL (wL w0)) (xs.take i) : Int) - i ≤ left - xs.length ∧ σ = ⟨[(0, .one (.ar false 0 1 (xs.map sISS))), (1, aI (left - xs.length - ((wL (wL (wL w0)) (xs.take i) : Int) - i))), (5, aI i)], []⟩) (xs.length) ⟨0, by simp [wL]; omega⟩ ?_
  rintro n σ ⟨i, hi, rfl, hle, rfl⟩
  have hge := wL_len (wL (wL w0)) (xs.take i)
  rw [List.length_take, Nat.min_eq_left hi] at hge
  by_cases h : i < xs.length
  · have hst := wL_take (wL (wL w0)) h
    have hle2 := wL_take_le (wL (wL w0)) xs (i + 1)
    have hlen2 := wL_len (wL (wL w0)) (xs.drop (i + 1))
    have happ := wL_append (wL (wL w0)) (xs.take (i + 1)) (xs.drop (i + 1))
    rw [List.take_append_drop] at happ
    rw [List.length_drop] at hlen2
    simp [h, sISS]
    refine callG_F (h_szIntSS xs[i] _ (hl.2 i h) (by omega) (by omega)) (by simp) ?_
    generalize hv : left - (xs.length : Int) - ((wL (wL (wL w0)) (xs.take i) : Int) - i) = v at *
    by_cases h4 : v < ((wL (wL w0)) xs[i] : Int)
    · simp only [lft_neg h4]
      rw [lft_neg (by omega)]
      simp
    · have e : lft v ((wL (wL w0)) xs[i]) = v - (wL (wL w0)) xs[i] := lft_pos (by omega)
      have n1 : ¬ v - ((wL (wL w0)) xs[i] : Int) < 0 := by omega
      simp [e, n1]
      refine ⟨xs.length - (i + 1), by omega, i + 1, by omega, rfl, by omega, ?_⟩
      rw [wrapI (by omega) (by omega)]
      simp; omega
  · have : i = xs.length := by omega
    subst this
    rw [List.take_length] at hle
    rw [lft_pos (by omega)]
    simp
    omega
end Go.Am
-- Gram_sz1
namespace Go.Am
open Go.Proofs
set_option maxHeartbeats 4000000
set_option maxRecDepth 100000
attribute [-simp] BitVec.toNat_or BitVec.toNat_and BitVec.toNat_ofInt
attribute [-simp] rConf_len sConf_len shr_rConf shr_sConf shrs_rConf shrs_sConf noSh_rConf mConf_wr mConf_n cS_t cS_f row20_len row20_sc row20_view row20_store row20_aff row20_ref row20_noSh row20_shr row20_lend row20_take row20_drop rB_len setR_noSh rErr_len sErr_len shr_rErr shr_sErr shrs_rErr shrs_sErr noSh_rErr mErr_wr mErr_n rSlot_len sSlot_len shr_rSlot shr_sSlot shrs_rSlot shrs_sSlot noSh_rSlot mSlot_wr mSlot_n rNode_len sNode_len shr_rNode shr_sNode shrs_rNode shrs_sNode noSh_rNode mNode_wr mNode_n rTree_len sTree_len shr_rTree shr_sTree shrs_rTree shrs_sTree noSh_rTree mTree_wr mTree_n rRun_len sRun_len shr_rRun shr_sRun shrs_rRun shrs_sRun noSh_rRun mRun_wr mRun_n rJob_len sJob_len shr_rJob shr_sJob shrs_rJob shrs_sJob noSh_rJob mJob_wr mJob_n rOutcome_len sOutcome_len shr_rOutcome shr_sOutcome shrs_rOutcome shrs_sOutcome noSh_rOutcome mOutcome_wr mOutcome_n rTenant_len sTenant_len shr_rTenant shr_sTenant shrs_rTenant shrs_sTenant noSh_rTenant mTenant_wr mTenant_n uTenant_wr uTenant_n rLine_len sLine_len shr_rLine shr_sLine shrs_rLine shrs_sLine noSh_rLine mLine_wr mLine_n rStore_len sStore_len shr_rStore shr_sStore shrs_rStore shrs_sStore noSh_rStore mStore_wr mStore_n uStore_wr uStore_n noSh_sOutcome noSh_sSlot noSh_sErr noSh_tenant
-- 15 loop.example/g00485/laws.szGram
def k_laws_szGram : K :=
 .seq (
  .reg none [⟨(some 2), none, .box 33 1 (.t 0)⟩,
    ⟨(some 4), none, .asn (.c (.int .i64 (0)))⟩]) (
 .seq (
  .reg none [⟨(some 5), none, .fad 0 (.t 2)⟩,
    ⟨(some 6), none, .ld 1 false (.t 5)⟩,
    ⟨(some 7), none, .mv (.t 1)⟩,
    ⟨(some 8), none, .call 52 [(.t 6), (.t 7)]⟩,
    ⟨(some 1), none, .asn (.t 8)⟩]) (
 .seq (
  .seq (
   .reg none [⟨(some 9), none, .mv (.t 1)⟩,
     ⟨(some 10), none, .bin .lss (.t 9) (.c (.int .i64 (0)))⟩]) (
  .cond (.t 10) (
   .seq (
    .reg none [⟨(some 4), none, .asn (.c (.int .i64 (-1)))⟩]) (
   .ret)) (
   .skip))) (
 .seq (
  .reg none [⟨(some 11), none, .mv (.t 1)⟩,
    ⟨(some 4), none, .asn (.t 11)⟩]) (
 .ret))))
def r_laws_szGram : Nat × List RV := (12, [.t 4])

theorem c_laws_szGram : cmpS PT PF PA (Try.prog.funcs[15]?) = some (r_laws_szGram.1, r_laws_szGram.2, stripK k_laws_szGram) := by kernel_rfl

theorem h_szGram (a : TGram) (left : Int) (h : lGram a) (h2 : 0 ≤ left) (h3 : left < 2 ^ 40) : CallsF Try.prog 15 [.agg (sGram a), aI left] (aI (lft left (wGram a))) := by
  refine Prun c_laws_szGram (by simp [r_laws_szGram]) (by simp) ?_
  unfold k_laws_szGram r_laws_szGram
  simp only [lGram] at h
  simp only [wGram]
  have hl0 := h
  simp [sGram]
  refine callG_F (h_szIntSSS a.parts (left) hl0 (by omega) (by omega)) (by simp) ?_
  by_cases g0 : left < (wL (wL (wL w0)) a.parts : Int)
  case pos => simp only [lft_neg g0]; simp; try rw [lft_neg (by omega)]
  simp only [lft_pos (show (wL (wL (wL w0)) a.parts : Int) ≤ left by omega)]
  have n0 : ¬ left - (wL (wL (wL w0)) a.parts : Int) < 0 := by omega
  simp [n0]
  try rw [lft_pos (by omega)]
  try omega
end Go.Am
-- IntSS_eq
namespace Go.Am
open Go.Proofs
set_option maxHeartbeats 4000000
set_option maxRecDepth 100000
attribute [-simp] BitVec.toNat_or BitVec.toNat_and BitVec.toNat_ofInt
attribute [-simp] rConf_len sConf_len shr_rConf shr_sConf shrs_rConf shrs_sConf noSh_rConf mConf_wr mConf_n rISS_len sISS_len shr_rISS shr_sISS shrs_rISS shrs_sISS noSh_rISS rGram_len sGram_len shr_rGram shr_sGram shrs_rGram shrs_sGram noSh_rGram mGram_wr mGram_n cS_t cS_f row20_len row20_sc row20_view row20_store row20_aff row20_ref row20_noSh row20_shr row20_lend row20_take row20_drop rB_len setR_noSh rErr_len sErr_len shr_rErr shr_sErr shrs_rErr shrs_sErr noSh_rErr mErr_wr mErr_n rSlot_len sSlot_len shr_rSlot shr_sSlot shrs_rSlot shrs_sSlot noSh_rSlot mSlot_wr mSlot_n rNode_len sNode_len shr_rNode shr_sNode shrs_rNode shrs_sNode noSh_rNode mNode_wr mNode_n rTree_len sTree_len shr_rTree shr_sTree shrs_rTree shrs_sTree noSh_rTree mTree_wr mTree_n rRun_len sRun_len shr_rRun shr_sRun shrs_rRun shrs_sRun noSh_rRun mRun_wr mRun_n rJob_len sJob_len shr_rJob shr_sJob shrs_rJob shrs_sJob noSh_rJob mJob_wr mJob_n rOutcome_len sOutcome_len shr_rOutcome shr_sOutcome shrs_rOutcome shrs_sOutcome noSh_rOutcome mOutcome_wr mOutcome_n rTenant_len sTenant_len shr_rTenant shr_sTenant shrs_rTenant shrs_sTenant noSh_rTenant mTenant_wr mTenant_n uTenant_wr uTenant_n rLine_len sLine_len shr_rLine shr_sLine shrs_rLine shrs_sLine noSh_rLine mLine_wr mLine_n rStore_len sStore_len shr_rStore shr_sStore shrs_rStore shrs_sStore noSh_rStore mStore_wr mStore_n uStore_wr uStore_n noSh_sOutcome noSh_sSlot noSh_sErr noSh_tenant
-- 117 loop.example/g00485/laws.eqIntSS
def k_laws_eqIntSS : K :=
 .seq (
  .reg none [⟨(some 4), none, .asn (.c (.bool false))⟩]) (
 .seq (
  .seq (
   .reg none [⟨(some 6), none, .mv (.t 0)⟩,
     ⟨(some 7), none, .len (.t 6)⟩,
     ⟨(some 8), none, .mv (.t 1)⟩,
     ⟨(some 9), none, .len (.t 8)⟩,
     ⟨(some 10), none, .bin .neq (.t 7) (.t 9)⟩]) (
  .cond (.t 10) (
   .seq (
    .reg none [⟨(some 4), none, .asn (.c (.bool false))⟩]) (
   .ret)) (
   .skip))) (
 .seq (
  .seq (
   .reg none [⟨(some 5), none, .asn (.c (.int .i64 (0)))⟩]) (
  .block 0 (
   .loop (some ([0, 1, 5], [0, 1, 5, 1000])) (
    .seq (
     .seq (
      .reg none [⟨(some 11), none, .mv (.t 5)⟩,
        ⟨(some 12), none, .mv (.t 0)⟩,
        ⟨(some 13), none, .len (.t 12)⟩,
        ⟨(some 14), none, .bin .lss (.t 11) (.t 13)⟩]) (
     .cond (.t 14) (
      .skip) (
      .exit 0))) (
    .seq (
     .block 1 (
      .seq (
       .drw none 10 [⟨(some 17), none, .mv (.t 0)⟩,
         ⟨(some 18), none, .mv (.t 5)⟩,
         ⟨(some 19), none, .iad 1 (.t 17) (.t 18)⟩,
         ⟨(some 20), none, .ld 1 false (.t 19)⟩,
         ⟨(some 21), none, .mv (.t 1)⟩,
         ⟨(some 22), none, .mv (.t 5)⟩,
         ⟨(some 23), none, .iad 1 (.t 21) (.t 22)⟩,
         ⟨(some 24), none, .ld 1 false (.t 23)⟩,
         ⟨(some 25), none, .call 22 [(.t 20), (.t 24)]⟩,
         ⟨(some 26), none, .not (.t 25)⟩]) (
      .cond (.t 26) (
       .seq (
        .reg none [⟨(some 4), none, .asn (.c (.bool false))⟩]) (
       .ret)) (
       .skip)))) (
    .reg none [⟨(some 15), none, .mv (.t 5)⟩,
      ⟨(some 16), none, .bin .add (.t 15) (.c (.int .i64 (1)))⟩,
      ⟨(some 5), none, .asn (.t 16)⟩])))))) (
 .seq (
  .reg none [⟨(some 4), none, .asn (.c (.bool true))⟩]) (
 .ret))))
def r_laws_eqIntSS : Nat × List RV := (27, [.t 4])

theorem c_laws_eqIntSS : cmpS PT PF PA (Try.prog.funcs[117]?) = some (r_laws_eqIntSS.1, r_laws_eqIntSS.2, stripK k_laws_eqIntSS) := by kernel_rfl

theorem h_eqIntSS (xs : List (List Int)) (hx : wL (wL w0) xs < 2 ^ 40) : CallsF Try.prog 117 [.one (.ar false 0 1 (xs.map sIS)), .one (.ar false 0 1 (xs.map sIS))] (aB true) := by
  refine Prun c_laws_eqIntSS (by simp [r_laws_eqIntSS]) (by simp) ?_
  unfold k_laws_eqIntSS r_laws_eqIntSS
  have hlen := wL_len (wL w0) xs
  simp
  refine awp_loop (fun n σ => ∃ i : Nat, i ≤ xs.length ∧ n = xs.length - i ∧ σ = ⟨[(0, .one (.ar false 0 1 (xs.map sIS))), (1, .one (.ar false 0 1 (xs.map sIS))), (5, aI i)], []⟩) (xs.length) ⟨0, by simp⟩ ?_
  rintro n σ ⟨i, hi, rfl, rfl⟩
  by_cases h : i < xs.length
  · have hw := wL_get (wL w0) xs i h
    simp [h, sIS]
    refine ⟨_, by simp, h_eqIntS xs[i] (by omega), ?_⟩
    simp
    refine ⟨xs.length - (i + 1), by omega, i + 1, by omega, rfl, ?_⟩
    rw [wrapI (by omega) (by omega)]
    simp
  · simp [h]
end Go.Am
-- IntSSS_eq
namespace Go.Am
open Go.Proofs
set_option maxHeartbeats 4000000
set_option maxRecDepth 100000
attribute [-simp] BitVec.toNat_or BitVec.toNat_and BitVec.toNat_ofInt
attribute [-simp] rConf_len sConf_len shr_rConf shr_sConf shrs_rConf shrs_sConf noSh_rConf mConf_wr mConf_n rGram_len sGram_len shr_rGram shr_sGram shrs_rGram shrs_sGram noSh_rGram mGram_wr mGram_n cS_t cS_f row20_len row20_sc row20_view row20_store row20_aff row20_ref row20_noSh row20_shr row20_lend row20_take row20_drop rB_len setR_noSh rErr_len sErr_len shr_rErr shr_sErr shrs_rErr shrs_sErr noSh_rErr mErr_wr mErr_n rSlot_len sSlot_len shr_rSlot shr_sSlot shrs_rSlot shrs_sSlot noSh_rSlot mSlot_wr mSlot_n rNode_len sNode_len shr_rNode shr_sNode shrs_rNode shrs_sNode noSh_rNode mNode_wr mNode_n rTree_len sTree_len shr_rTree shr_sTree shrs_rTree shrs_sTree noSh_rTree mTree_wr mTree_n rRun_len sRun_len shr_rRun shr_sRun shrs_rRun shrs_sRun noSh_rRun mRun_wr mRun_n rJob_len sJob_len shr_rJob shr_sJob shrs_rJob shrs_sJob noSh_rJob mJob_wr mJob_n rOutcome_len sOutcome_len shr_rOutcome shr_sOutcome shrs_rOutcome shrs_sOutcome noSh_rOutcome mOutcome_wr mOutcome_n rTenant_len sTenant_len shr_rTenant shr_sTenant shrs_rTenant shrs_sTenant noSh_rTenant mTenant_wr mTenant_n uTenant_wr uTenant_n rLine_len sLine_len shr_rLine shr_sLine shrs_rLine shrs_sLine noSh_rLine mLine_wr mLine_n rStore_len sStore_len shr_rStore shr_sStore shrs_rStore shrs_sStore noSh_rStore mStore_wr mStore_n uStore_wr uStore_n noSh_sOutcome noSh_sSlot noSh_sErr noSh_tenant
-- 61 loop.example/g00485/laws.eqIntSSS
def k_laws_eqIntSSS : K :=
 .seq (
  .reg none [⟨(some 4), none, .asn (.c (.bool false))⟩]) (
 .seq (
  .seq (
   .reg none [⟨(some 6), none, .mv (.t 0)⟩,
     ⟨(some 7), none, .len (.t 6)⟩,
     ⟨(some 8), none, .mv (.t 1)⟩,
     ⟨(some 9), none, .len (.t 8)⟩,
     ⟨(some 10), none, .bin .neq (.t 7) (.t 9)⟩]) (
  .cond (.t 10) (
   .seq (
    .reg none [⟨(some 4), none, .asn (.c (.bool false))⟩]) (
   .ret)) (
   .skip))) (
 .seq (
  .seq (
   .reg none [⟨(some 5), none, .asn (.c (.int .i64 (0)))⟩]) (
  .block 0 (
   .loop (some ([0, 1, 5], [0, 1, 5, 1000])) (
    .seq (
     .seq (
      .reg none [⟨(some 11), none, .mv (.t 5)⟩,
        ⟨(some 12), none, .mv (.t 0)⟩,
        ⟨(some 13), none, .len (.t 12)⟩,
        ⟨(some 14), none, .bin .lss (.t 11) (.t 13)⟩]) (
     .cond (.t 14) (
      .skip) (
      .exit 0))) (
    .seq (
     .block 1 (
      .seq (
       .drw none 10 [⟨(some 17), none, .mv (.t 0)⟩,
         ⟨(some 18), none, .mv (.t 5)⟩,
         ⟨(some 19), none, .iad 1 (.t 17) (.t 18)⟩,
         ⟨(some 20), none, .ld 1 false (.t 19)⟩,
         ⟨(some 21), none, .mv (.t 1)⟩,
         ⟨(some 22), none, .mv (.t 5)⟩,
         ⟨(some 23), none, .iad 1 (.t 21) (.t 22)⟩,
         ⟨(some 24), none, .ld 1 false (.t 23)⟩,
         ⟨(some 25), none, .call 117 [(.t 20), (.t 24)]⟩,
         ⟨(some 26), none, .not (.t 25)⟩]) (
      .cond (.t 26) (
       .seq (
        .reg none [⟨(some 4), none, .asn (.c (.bool false))⟩]) (
       .ret)) (
       .skip)))) (
    .reg none [⟨(some 15), none, .mv (.t 5)⟩,
      ⟨(some 16), none, .bin .add (.t 15) (.c (.int .i64 (1)))⟩,
      ⟨(some 5), none, .asn (.t 16)⟩])))))) (
 .seq (
  .reg none [⟨(some 4), none, .asn (.c (.bool true))⟩]) (
 .ret))))
def r_laws_eqIntSSS : Nat × List RV := (27, [.t 4])

theorem c_laws_eqIntSSS : cmpS PT PF PA (Try.prog.funcs[61]?) = some (r_laws_eqIntSSS.1, r_laws_eqIntSSS.2, stripK k_laws_eqIntSSS) := by kernel_rfl

theorem h_eqIntSSS (xs : List (List (List Int))) (hx : wL (wL (wL w0)) xs < 2 ^ 40) : CallsF Try.prog 61 [.one (.ar false 0 1 (xs.map sISS)), .one (.ar false 0 1 (xs.map sISS))] (aB true) := by
  refine Prun c_laws_eqIntSSS (by simp [r_laws_eqIntSSS]) (by simp) ?_
  unfold k_laws_eqIntSSS r_laws_eqIntSSS
  have hlen := wL_len (wL (wL w0)) xs
  simp
  refine awp_loop (fun n σ => ∃ i : Nat, i ≤ xs.length ∧ n = xs.length - i ∧ σ = ⟨[(0, .one (.ar false 0 1 (xs.map sISS))), (1, .one (.ar false 0 1 (xs.map sISS))), (5, aI i)], []⟩) (xs.length) ⟨0, by simp⟩ ?_
  rintro n σ ⟨i, hi, rfl, rfl⟩
  by_cases h : i < xs.length
  · have hw := wL_get (wL (wL w0)) xs i h
    simp [h, sISS]
    refine ⟨_, by simp, h_eqIntSS xs[i] (by omega), ?_⟩
    simp
    refine ⟨xs.length - (i + 1), by omega, i + 1, by omega, rfl, ?_⟩
    rw [wrapI (by omega) (by omega)]
    simp
  · simp [h]
end Go.Am
-- Gram_eq1
namespace Go.Am
open Go.Proofs
set_option maxHeartbeats 4000000
set_option maxRecDepth 100000
attribute [-simp] BitVec.toNat_or BitVec.toNat_and BitVec.toNat_ofInt
attribute [-simp] rConf_len sConf_len shr_rConf shr_sConf shrs_rConf shrs_sConf noSh_rConf mConf_wr mConf_n cS_t cS_f row20_len row20_sc row20_view row20_store row20_aff row20_ref row20_noSh row20_shr row20_lend row20_take row20_drop rB_len setR_noSh rErr_len sErr_len shr_rErr shr_sErr shrs_rErr shrs_sErr noSh_rErr mErr_wr mErr_n rSlot_len sSlot_len shr_rSlot shr_sSlot shrs_rSlot shrs_sSlot noSh_rSlot mSlot_wr mSlot_n rNode_len sNode_len shr_rNode shr_sNode shrs_rNode shrs_sNode noSh_rNode mNode_wr mNode_n rTree_len sTree_len shr_rTree shr_sTree shrs_rTree shrs_sTree noSh_rTree mTree_wr mTree_n rRun_len sRun_len shr_rRun shr_sRun shrs_rRun shrs_sRun noSh_rRun mRun_wr mRun_n rJob_len sJob_len shr_rJob shr_sJob shrs_rJob shrs_sJob noSh_rJob mJob_wr mJob_n rOutcome_len sOutcome_len shr_rOutcome shr_sOutcome shrs_rOutcome shrs_sOutcome noSh_rOutcome mOutcome_wr mOutcome_n rTenant_len sTenant_len shr_rTenant shr_sTenant shrs_rTenant shrs_sTenant noSh_rTenant mTenant_wr mTenant_n uTenant_wr uTenant_n rLine_len sLine_len shr_rLine shr_sLine shrs_rLine shrs_sLine noSh_rLine mLine_wr mLine_n rStore_len sStore_len shr_rStore shr_sStore shrs_rStore shrs_sStore noSh_rStore mStore_wr mStore_n uStore_wr uStore_n noSh_sOutcome noSh_sSlot noSh_sErr noSh_tenant
-- 21 loop.example/g00485/laws.eqGram
def k_laws_eqGram : K :=
 .seq (
  .reg none [⟨(some 2), none, .box 39 1 (.t 0)⟩,
    ⟨(some 3), none, .box 39 1 (.t 1)⟩,
    ⟨(some 4), none, .asn (.c (.bool false))⟩]) (
 .seq (
  .seq (
   .reg none [⟨(some 5), none, .fad 0 (.t 2)⟩,
     ⟨(some 6), none, .ld 1 false (.t 5)⟩,
     ⟨(some 7), none, .fad 0 (.t 3)⟩,
     ⟨(some 8), none, .ld 1 false (.t 7)⟩,
     ⟨(some 9), none, .call 61 [(.t 6), (.t 8)]⟩,
     ⟨(some 10), none, .not (.t 9)⟩]) (
  .cond (.t 10) (
   .seq (
    .reg none [⟨(some 4), none, .asn (.c (.bool false))⟩]) (
   .ret)) (
   .skip))) (
 .seq (
  .reg none [⟨(some 4), none, .asn (.c (.bool true))⟩]) (
 .ret)))
def r_laws_eqGram : Nat × List RV := (11, [.t 4])

theorem c_laws_eqGram : cmpS PT PF PA (Try.prog.funcs[21]?) = some (r_laws_eqGram.1, r_laws_eqGram.2, stripK k_laws_eqGram) := by kernel_rfl

theorem h_eqGram (a : TGram) (ha : wGram a < 2 ^ 40) : CallsF Try.prog 21 [.agg (sGram a), .agg (sGram a)] (aB true) := by
  refine Prun c_laws_eqGram (by simp [r_laws_eqGram]) (by simp) ?_
  unfold k_laws_eqGram r_laws_eqGram
  simp only [wGram] at ha
  simp [sGram]
  refine callG_F (h_eqIntSSS a.parts (by omega)) (by simp) ?_
  simp
end Go.Am
-- Gram_u
namespace Go.Am
open Go.Proofs
set_option maxHeartbeats 4000000
set_option maxRecDepth 100000
attribute [-simp] BitVec.toNat_or BitVec.toNat_and BitVec.toNat_ofInt
attribute [-simp] rConf_len sConf_len shr_rConf shr_sConf shrs_rConf shrs_sConf noSh_rConf mConf_wr mConf_n cS_t cS_f row20_len row20_sc row20_view row20_store row20_aff row20_ref row20_noSh row20_shr row20_lend row20_take row20_drop rB_len setR_noSh rErr_len sErr_len shr_rErr shr_sErr shrs_rErr shrs_sErr noSh_rErr mErr_wr mErr_n rSlot_len sSlot_len shr_rSlot shr_sSlot shrs_rSlot shrs_sSlot noSh_rSlot mSlot_wr mSlot_n rNode_len sNode_len shr_rNode shr_sNode shrs_rNode shrs_sNode noSh_rNode mNode_wr mNode_n rTree_len sTree_len shr_rTree shr_sTree shrs_rTree shrs_sTree noSh_rTree mTree_wr mTree_n rRun_len sRun_len shr_rRun shr_sRun shrs_rRun shrs_sRun noSh_rRun mRun_wr mRun_n rJob_len sJob_len shr_rJob shr_sJob shrs_rJob shrs_sJob noSh_rJob mJob_wr mJob_n rOutcome_len sOutcome_len shr_rOutcome shr_sOutcome shrs_rOutcome shrs_sOutcome noSh_rOutcome mOutcome_wr mOutcome_n rTenant_len sTenant_len shr_rTenant shr_sTenant shrs_rTenant shrs_sTenant noSh_rTenant mTenant_wr mTenant_n uTenant_wr uTenant_n rLine_len sLine_len shr_rLine shr_sLine shrs_rLine shrs_sLine noSh_rLine mLine_wr mLine_n rStore_len sStore_len shr_rStore shr_sStore shrs_rStore shrs_sStore noSh_rStore mStore_wr mStore_n uStore_wr uStore_n noSh_sOutcome noSh_sSlot noSh_sErr noSh_tenant
def vGram (a : TGram) : List C := [.vw 90 1 1000 [] 0 a.parts.length]
def uGram : Mk TGram := ⟨fun a k => ⟨mI.L.L.mkL a.parts (k)⟩, fun a => mI.L.L.nL a.parts⟩
@[simp] theorem uGram_wr (a : TGram) (k : Int) : uGram.wr a k = ⟨mI.L.L.mkL a.parts (k)⟩ := rfl
@[simp] theorem uGram_n (a : TGram) : uGram.n a = mI.L.L.nL a.parts := rfl
end Go.Am
-- intk
namespace Go.Am
open Go.Proofs
set_option maxHeartbeats 4000000
set_option maxRecDepth 100000
attribute [-simp] BitVec.toNat_or BitVec.toNat_and BitVec.toNat_ofInt
attribute [-simp] rConf_len sConf_len shr_rConf shr_sConf shrs_rConf shrs_sConf noSh_rConf mConf_wr mConf_n rIS_len sIS_len shr_rIS shr_sIS shrs_rIS shrs_sIS noSh_rIS rISS_len sISS_len shr_rISS shr_sISS shrs_rISS shrs_sISS noSh_rISS rGram_len sGram_len shr_rGram shr_sGram shrs_rGram shrs_sGram noSh_rGram mGram_wr mGram_n cS_t cS_f row20_len row20_sc row20_view row20_store row20_aff row20_ref row20_noSh row20_shr row20_lend row20_take row20_drop rB_len setR_noSh rErr_len sErr_len shr_rErr shr_sErr shrs_rErr shrs_sErr noSh_rErr mErr_wr mErr_n rSlot_len sSlot_len shr_rSlot shr_sSlot shrs_rSlot shrs_sSlot noSh_rSlot mSlot_wr mSlot_n rNode_len sNode_len shr_rNode shr_sNode shrs_rNode shrs_sNode noSh_rNode mNode_wr mNode_n rTree_len sTree_len shr_rTree shr_sTree shrs_rTree shrs_sTree noSh_rTree mTree_wr mTree_n rRun_len sRun_len shr_rRun shr_sRun shrs_rRun shrs_sRun noSh_rRun mRun_wr mRun_n rJob_len sJob_len shr_rJob shr_sJob shrs_rJob shrs_sJob noSh_rJob mJob_wr mJob_n rOutcome_len sOutcome_len shr_rOutcome shr_sOutcome shrs_rOutcome shrs_sOutcome noSh_rOutcome mOutcome_wr mOutcome_n rTenant_len sTenant_len shr_rTenant shr_sTenant shrs_rTenant shrs_sTenant noSh_rTenant mTenant_wr mTenant_n uTenant_wr uTenant_n rLine_len sLine_len shr_rLine shr_sLine shrs_rLine shrs_sLine noSh_rLine mLine_wr mLine_n rStore_len sStore_len shr_rStore shr_sStore shrs_rStore shrs_sStore noSh_rStore mStore_wr mStore_n uStore_wr uStore_n noSh_sOutcome noSh_sSlot noSh_sErr noSh_tenant uGram_wr uGram_n
-- 24 loop.example/g00485/laws.markIntS
def k_laws_markIntS : K :=
 .seq (
  .reg none [⟨(some 4), none, .asn (.c (.int .i64 (0)))⟩]) (
 .seq (
  .seq (
   .reg none [⟨(some 5), none, .asn (.c (.int .i64 (0)))⟩]) (
  .block 0 (
   .loop (some ([0, 1, 5], [0, 1, 5, 1000])) (
    .seq (
     .seq (
      .reg none [⟨(some 6), none, .mv (.t 5)⟩,
        ⟨(some 7), none, .mv (.t 0)⟩,
        ⟨(some 8), none, .len (.t 7)⟩,
        ⟨(some 9), none, .bin .lss (.t 6) (.t 8)⟩]) (
     .cond (.t 9) (
      .skip) (
      .exit 0))) (
    .seq (
     .block 1 (
      .seq (
       .reg none [⟨(some 12), none, .mv (.t 0)⟩,
         ⟨(some 13), none, .mv (.t 5)⟩,
         ⟨(some 14), none, .mv (.t 1)⟩,
         ⟨(some 15), none, .iad 1 (.t 12) (.t 13)⟩,
         ⟨none, none, .st 1 false (.t 15) (.t 14)⟩]) (
      .reg none [⟨(some 16), none, .mv (.t 1)⟩,
        ⟨(some 17), none, .bin .add (.t 16) (.c (.int .i64 (1)))⟩,
        ⟨(some 1), none, .asn (.t 17)⟩]))) (
    .reg none [⟨(some 10), none, .mv (.t 5)⟩,
      ⟨(some 11), none, .bin .add (.t 10) (.c (.int .i64 (1)))⟩,
      ⟨(some 5), none, .asn (.t 11)⟩])))))) (
 .seq (
  .reg none [⟨(some 18), none, .mv (.t 1)⟩,
    ⟨(some 4), none, .asn (.t 18)⟩]) (
 .ret)))
def r_laws_markIntS : Nat × List RV := (19, [.t 4])

theorem c_laws_markIntS : cmpS PT PF PB (Try.prog.funcs[24]?) = some (r_laws_markIntS.1, r_laws_markIntS.2, stripK k_laws_markIntS) := by kernel_rfl

theorem h_markIntS (t : Nat) (xs : List Int) (k : Int) (hk : 0 ≤ k) (hk2 : k + mI.nL xs < 2 ^ 50) :
    CallsB Try.prog 24 [.one (.vw t 1 1000 [] 0 xs.length), aI k] ⟨t, 1, xs.map rI⟩ ⟨t, 1, (mI.mkL xs k).map rI⟩ (aI (k + mI.nL xs)) := by
  refine PrunB c_laws_markIntS (by simp [r_laws_markIntS]) (by simp) ?_
  unfold k_laws_markIntS r_laws_markIntS
  have hn : (mI.nL xs : Int) = xs.length := by simp [mI_n]
  simp
  refine awp_loop (fun n σ => ∃ i : Nat, i ≤ xs.length ∧ n = xs.length - i ∧ σ = ⟨[(0, .one (.vw t 1 1000 [] 0 xs.length)), (1, aI (mI.pos xs k i)), (5, aI i)], [(1000, ⟨t, 1, (mI.upto xs k i).map rI⟩)]⟩) (xs.length) ⟨0, by simp [Mk.upto_zero, Mk.pos_zero]⟩ ?_
  rintro n σ ⟨i, hi, rfl, rfl⟩
  have hp1 : mI.pos xs k i ≤ k + mI.nL xs := Mk.pos_le hi
  have hp2 : k ≤ mI.pos xs k i := Mk.pos_ge
  by_cases h : i < xs.length
  · have hpst : mI.pos xs k (i + 1) = mI.pos xs k i + 1 := Mk.pos_step h
    have hst := Mk.upto_set (M := mI) (k := k) h
    have hle : mI.pos xs k (i + 1) ≤ k + mI.nL xs := Mk.pos_le h
    have w1 : IntKind.i64.wrap (mI.pos xs k i + 1) = mI.pos xs k (i + 1) := by rw [wrapI (by omega) (by omega), hpst]
    have w2 : IntKind.i64.wrap ((i : Int) + 1) = i + 1 := wrapI (by omega) (by omega)
    simp [h, w1, w2]
    refine ⟨xs.length - (i + 1), by omega, i + 1, by omega, rfl, ?_⟩
    rw [← hst]
    simp
  · have : i = xs.length := by omega
    subst this
    simp [Mk.upto_all, Mk.pos_all]
end Go.Am
-- IntSS_mk
namespace Go.Am
open Go.Proofs
set_option maxHeartbeats 4000000
set_option maxRecDepth 100000
attribute [-simp] BitVec.toNat_or BitVec.toNat_and BitVec.toNat_ofInt
attribute [-simp] rConf_len sConf_len shr_rConf shr_sConf shrs_rConf shrs_sConf noSh_rConf mConf_wr mConf_n rISS_len sISS_len shr_rISS shr_sISS shrs_rISS shrs_sISS noSh_rISS rGram_len sGram_len shr_rGram shr_sGram shrs_rGram shrs_sGram noSh_rGram mGram_wr mGram_n cS_t cS_f row20_len row20_sc row20_view row20_store row20_aff row20_ref row20_noSh row20_shr row20_lend row20_take row20_drop rB_len setR_noSh rErr_len sErr_len shr_rErr shr_sErr shrs_rErr shrs_sErr noSh_rErr mErr_wr mErr_n rSlot_len sSlot_len shr_rSlot shr_sSlot shrs_rSlot shrs_sSlot noSh_rSlot mSlot_wr mSlot_n rNode_len sNode_len shr_rNode shr_sNode shrs_rNode shrs_sNode noSh_rNode mNode_wr mNode_n rTree_len sTree_len shr_rTree shr_sTree shrs_rTree shrs_sTree noSh_rTree mTree_wr mTree_n rRun_len sRun_len shr_rRun shr_sRun shrs_rRun shrs_sRun noSh_rRun mRun_wr mRun_n rJob_len sJob_len shr_rJob shr_sJob shrs_rJob shrs_sJob noSh_rJob mJob_wr mJob_n rOutcome_len sOutcome_len shr_rOutcome shr_sOutcome shrs_rOutcome shrs_sOutcome noSh_rOutcome mOutcome_wr mOutcome_n rTenant_len sTenant_len shr_rTenant shr_sTenant shrs_rTenant shrs_sTenant noSh_rTenant mTenant_wr mTenant_n uTenant_wr uTenant_n rLine_len sLine_len shr_rLine shr_sLine shrs_rLine shrs_sLine noSh_rLine mLine_wr mLine_n rStore_len sStore_len shr_rStore shr_sStore shrs_rStore shrs_sStore noSh_rStore mStore_wr mStore_n uStore_wr uStore_n noSh_sOutcome noSh_sSlot noSh_sErr noSh_tenant uGram_wr uGram_n
@[simp] theorem mIS_n1 (a : List Int) : mI.L.n a = mI.nL a := rfl
@[simp] theorem mIS_wr1 (a : List Int) (k : Int) : mI.L.wr a k = mI.mkL a k := rfl
-- 118 loop.example/g00485/laws.markIntSS
def k_laws_markIntSS : K :=
 .seq (
  .reg none [⟨(some 4), none, .asn (.c (.int .i64 (0)))⟩]) (
 .seq (
  .seq (
   .reg none [⟨(some 5), none, .asn (.c (.int .i64 (0)))⟩]) (
  .block 0 (
   .loop (some ([0, 1, 5], [0, 1, 5, 1000])) (
    .seq (
     .seq (
      .reg none [⟨(some 6), none, .mv (.t 5)⟩,
        ⟨(some 7), none, .mv (.t 0)⟩,
        ⟨(some 8), none, .len (.t 7)⟩,
        ⟨(some 9), none, .bin .lss (.t 6) (.t 8)⟩]) (
     .cond (.t 9) (
      .skip) (
      .exit 0))) (
    .seq (
     .block 1 (
      .reg none [⟨(some 12), none, .mv (.t 0)⟩,
        ⟨(some 13), none, .mv (.t 5)⟩,
        ⟨(some 14), none, .iad 1 (.t 12) (.t 13)⟩,
        ⟨(some 15), none, .ld 1 false (.t 14)⟩,
        ⟨(some 16), none, .mv (.t 1)⟩,
        ⟨(some 17), none, .callr 24 (.t 15) [(.t 15), (.t 16)]⟩,
        ⟨(some 1), none, .asn (.t 17)⟩])) (
    .reg none [⟨(some 10), none, .mv (.t 5)⟩,
      ⟨(some 11), none, .bin .add (.t 10) (.c (.int .i64 (1)))⟩,
      ⟨(some 5), none, .asn (.t 11)⟩])))))) (
 .seq (
  .reg none [⟨(some 18), none, .mv (.t 1)⟩,
    ⟨(some 4), none, .asn (.t 18)⟩]) (
 .ret)))
def r_laws_markIntSS : Nat × List RV := (19, [.t 4])

theorem c_laws_markIntSS : cmpS PT PF PB (Try.prog.funcs[118]?) = some (r_laws_markIntSS.1, r_laws_markIntSS.2, stripK k_laws_markIntSS) := by kernel_rfl

theorem h_markIntSS (t : Nat) (xs : List (List Int)) (k : Int) (hk : 0 ≤ k) (hk2 : k + mI.L.nL xs < 2 ^ 50) (hk3 : wL (wL w0) xs < 2 ^ 50) :
    CallsB Try.prog 118 [.one (.vw t 1 1000 [] 0 xs.length), aI k] ⟨t, 1, xs.map rIS⟩ ⟨t, 1, (mI.L.mkL xs k).map rIS⟩ (aI (k + mI.L.nL xs)) := by
  refine PrunB c_laws_markIntSS (by simp [r_laws_markIntSS]) (by simp) ?_
  unfold k_laws_markIntSS r_laws_markIntSS
  have hlen := wL_len (wL w0) xs
  simp
  refine awp_loop (fun n σ => ∃ i : Nat, i ≤ xs.length ∧ n = xs.length - i ∧ σ = ⟨[(0, .one (.vw t 1 1000 [] 0 xs.length)), (1, aI (mI.L.pos xs k i)), (5, aI i)], [(1000, ⟨t, 1, (mI.L.upto xs k i).map rIS⟩)]⟩) (xs.length) ⟨0, by simp [Mk.upto_zero, Mk.pos_zero]⟩ ?_
  rintro n σ ⟨i, hi, rfl, rfl⟩
  have hp1 : mI.L.pos xs k i ≤ k + mI.L.nL xs := Mk.pos_le hi
  have hp2 : k ≤ mI.L.pos xs k i := Mk.pos_ge
  by_cases h : i < xs.length
  · have hw := wL_get (wL w0) xs i h
    have hpst : mI.L.pos xs k (i + 1) = mI.L.pos xs k i + mI.L.n xs[i] := Mk.pos_step h
    have hle : mI.L.pos xs k (i + 1) ≤ k + mI.L.nL xs := Mk.pos_le h
    have hst := Mk.upto_set (M := mI.L) (k := k) h
    have hga := Mk.upto_at (M := mI.L) (k := k) h
    have hll := Mk.upto_len (M := mI.L) (xs := xs) (k := k) (i := i)
    generalize mI.L.upto xs k i = us at *
    generalize hκ : mI.L.pos xs k i = p0 at *
    generalize ha : xs[i] = row at *
    simp only [mIS_n1, mIS_wr1] at hpst hga hst
    have hc1 := h_markIntS 3 row p0 (by omega) (by omega)
    have hi3 : i < us.length := by omega
    have hga := hga hi3
    simp [h, hga, hll, rIS]
    refine callRG_F hc1 rfl rfl (by simp) (by simp) ?_
    simp [h, hga, hll, rIS]
    refine ⟨xs.length - (i + 1), by omega, i + 1, by omega, rfl, ?_⟩
    rw [wrapI (by omega) (by omega)]
    rw [← hst]
    simp [rIS]
    omega
  · have : i = xs.length := by omega
    subst this
    simp [Mk.upto_all, Mk.pos_all]
end Go.Am
-- IntSSS_mk
namespace Go.Am
open Go.Proofs
set_option maxHeartbeats 4000000
set_option maxRecDepth 100000
attribute [-simp] BitVec.toNat_or BitVec.toNat_and BitVec.toNat_ofInt
attribute [-simp] rConf_len sConf_len shr_rConf shr_sConf shrs_rConf shrs_sConf noSh_rConf mConf_wr mConf_n rGram_len sGram_len shr_rGram shr_sGram shrs_rGram shrs_sGram noSh_rGram mGram_wr mGram_n cS_t cS_f row20_len row20_sc row20_view row20_store row20_aff row20_ref row20_noSh row20_shr row20_lend row20_take row20_drop rB_len setR_noSh rErr_len sErr_len shr_rErr shr_sErr shrs_rErr shrs_sErr noSh_rErr mErr_wr mErr_n rSlot_len sSlot_len shr_rSlot shr_sSlot shrs_rSlot shrs_sSlot noSh_rSlot mSlot_wr mSlot_n rNode_len sNode_len shr_rNode shr_sNode shrs_rNode shrs_sNode noSh_rNode mNode_wr mNode_n rTree_len sTree_len shr_rTree shr_sTree shrs_rTree shrs_sTree noSh_rTree mTree_wr mTree_n rRun_len sRun_len shr_rRun shr_sRun shrs_rRun shrs_sRun noSh_rRun mRun_wr mRun_n rJob_len sJob_len shr_rJob shr_sJob shrs_rJob shrs_sJob noSh_rJob mJob_wr mJob_n rOutcome_len sOutcome_len shr_rOutcome shr_sOutcome shrs_rOutcome shrs_sOutcome noSh_rOutcome mOutcome_wr mOutcome_n rTenant_len sTenant_len shr_rTenant shr_sTenant shrs_rTenant shrs_sTenant noSh_rTenant mTenant_wr mTenant_n uTenant_wr uTenant_n rLine_len sLine_len shr_rLine shr_sLine shrs_rLine shrs_sLine noSh_rLine mLine_wr mLine_n rStore_len sStore_len shr_rStore shr_sStore shrs_rStore shrs_sStore noSh_rStore mStore_wr mStore_n uStore_wr uStore_n noSh_sOutcome noSh_sSlot noSh_sErr noSh_tenant uGram_wr uGram_n
@[simp] theorem mISS_n1 (a : List (List Int)) : mI.L.L.n a = mI.L.nL a := rfl
@[simp] theorem mISS_wr1 (a : List (List Int)) (k : Int) : mI.L.L.wr a k = mI.L.mkL a k := rfl
-- 62 loop.example/g00485/laws.markIntSSS
def k_laws_markIntSSS : K :=
 .seq (
  .reg none [⟨(some 4), none, .asn (.c (.int .i64 (0)))⟩]) (
 .seq (
  .seq (
   .reg none [⟨(some 5), none, .asn (.c (.int .i64 (0)))⟩]) (
  .block 0 (
   .loop (some ([0, 1, 5], [0, 1, 5, 1000])) (
    .seq (
     .seq (
      .reg none [⟨(some 6), none, .mv (.t 5)⟩,
        ⟨(some 7), none, .mv (.t 0)⟩,
        ⟨(some 8), none, .len (.t 7)⟩,
        ⟨(some 9), none, .bin .lss (.t 6) (.t 8)⟩]) (
     .cond (.t 9) (
      .skip) (
      .exit 0))) (
    .seq (
     .block 1 (
      .reg none [⟨(some 12), none, .mv (.t 0)⟩,
        ⟨(some 13), none, .mv (.t 5)⟩,
        ⟨(some 14), none, .iad 1 (.t 12) (.t 13)⟩,
        ⟨(some 15), none, .ld 1 false (.t 14)⟩,
        ⟨(some 16), none, .mv (.t 1)⟩,
        ⟨(some 17), none, .callr 118 (.t 15) [(.t 15), (.t 16)]⟩,
        ⟨(some 1), none, .asn (.t 17)⟩])) (
    .reg none [⟨(some 10), none, .mv (.t 5)⟩,
      ⟨(some 11), none, .bin .add (.t 10) (.c (.int .i64 (1)))⟩,
      ⟨(some 5), none, .asn (.t 11)⟩])))))) (
 .seq (
  .reg none [⟨(some 18), none, .mv (.t 1)⟩,
    ⟨(some 4), none, .asn (.t 18)⟩]) (
 .ret)))
def r_laws_markIntSSS : Nat × List RV := (19, [.t 4])

theorem c_laws_markIntSSS : cmpS PT PF PB (Try.prog.funcs[62]?) = some (r_laws_markIntSSS.1, r_laws_markIntSSS.2, stripK k_laws_markIntSSS) := by kernel_rfl

theorem h_markIntSSS (t : Nat) (xs : List (List (List Int))) (k : Int) (hk : 0 ≤ k) (hk2 : k + mI.L.L.nL xs < 2 ^ 50) (hk3 : wL (wL (wL w0)) xs < 2 ^ 50) :
    CallsB Try.prog 62 [.one (.vw t 1 1000 [] 0 xs.length), aI k] ⟨t, 1, xs.map rISS⟩ ⟨t, 1, (mI.L.L.mkL xs k).map rISS⟩ (aI (k + mI.L.L.nL xs)) := by
  refine PrunB c_laws_markIntSSS (by simp [r_laws_markIntSSS]) (by simp) ?_
  unfold k_laws_markIntSSS r_laws_markIntSSS
  have hlen := wL_len (wL (wL w0)) xs
  simp
  refine awp_loop (fun n σ => ∃ i : Nat, i ≤ xs.length ∧ n = xs.length - i ∧ σ = ⟨[(0, .one (.vw t 1 1000 [] 0 xs.length)), (1, aI (mI.L.L.pos xs k i)), (5, aI i)], [(1000, ⟨t, 1, (mI.L.L.upto xs k i).map rISS⟩)]⟩) (xs.length) ⟨0, by simp [Mk.upto_zero, Mk.pos_zero]⟩ ?_
  rintro n σ ⟨i, hi, rfl, rfl⟩
  have hp1 : mI.L.L.pos xs k i ≤ k + mI.L.L.nL xs := Mk.pos_le hi
  have hp2 : k ≤ mI.L.L.pos xs k i := Mk.pos_ge
  by_cases h : i < xs.length
  · have hw := wL_get (wL (wL w0)) xs i h
    have hpst : mI.L.L.pos xs k (i + 1) = mI.L.L.pos xs k i + mI.L.L.n xs[i] := Mk.pos_step h
    have hle : mI.L.L.pos xs k (i + 1) ≤ k + mI.L.L.nL xs := Mk.pos_le h
    have hst := Mk.upto_set (M := mI.L.L) (k := k) h
    have hga := Mk.upto_at (M := mI.L.L) (k := k) h
    have hll := Mk.upto_len (M := mI.L.L) (xs := xs) (k := k) (i := i)
    generalize mI.L.L.upto xs k i = us at *
    generalize hκ : mI.L.L.pos xs k i = p0 at *
    generalize ha : xs[i] = row at *
    simp only [mISS_n1, mISS_wr1] at hpst hga hst
    have hc1 := h_markIntSS 34 row p0 (by omega) (by omega) (by omega)
    have hi3 : i < us.length := by omega
    have hga := hga hi3
    simp [h, hga, hll, rISS]
    refine callRG_F hc1 rfl rfl (by simp) (by simp) ?_
    simp [h, hga, hll, rISS]
    refine ⟨xs.length - (i + 1), by omega, i + 1, by omega, rfl, ?_⟩
    rw [wrapI (by omega) (by omega)]
    rw [← hst]
    simp [rISS]
    omega
  · have : i = xs.length := by omega
    subst this
    simp [Mk.upto_all, Mk.pos_all]
end Go.Am
-- Gram_mk1
namespace Go.Am
open Go.Proofs
set_option maxHeartbeats 4000000
set_option maxRecDepth 100000
attribute [-simp] BitVec.toNat_or BitVec.toNat_and BitVec.toNat_ofInt
attribute [-simp] rConf_len sConf_len shr_rConf shr_sConf shrs_rConf shrs_sConf noSh_rConf mConf_wr mConf_n cS_t cS_f row20_len row20_sc row20_view row20_store row20_aff row20_ref row20_noSh row20_shr row20_lend row20_take row20_drop rB_len setR_noSh rErr_len sErr_len shr_rErr shr_sErr shrs_rErr shrs_sErr noSh_rErr mErr_wr mErr_n rSlot_len sSlot_len shr_rSlot shr_sSlot shrs_rSlot shrs_sSlot noSh_rSlot mSlot_wr mSlot_n rNode_len sNode_len shr_rNode shr_sNode shrs_rNode shrs_sNode noSh_rNode mNode_wr mNode_n rTree_len sTree_len shr_rTree shr_sTree shrs_rTree shrs_sTree noSh_rTree mTree_wr mTree_n rRun_len sRun_len shr_rRun shr_sRun shrs_rRun shrs_sRun noSh_rRun mRun_wr mRun_n rJob_len sJob_len shr_rJob shr_sJob shrs_rJob shrs_sJob noSh_rJob mJob_wr mJob_n rOutcome_len sOutcome_len shr_rOutcome shr_sOutcome shrs_rOutcome shrs_sOutcome noSh_rOutcome mOutcome_wr mOutcome_n rTenant_len sTenant_len shr_rTenant shr_sTenant shrs_rTenant shrs_sTenant noSh_rTenant mTenant_wr mTenant_n uTenant_wr uTenant_n rLine_len sLine_len shr_rLine shr_sLine shrs_rLine shrs_sLine noSh_rLine mLine_wr mLine_n rStore_len sStore_len shr_rStore shr_sStore shrs_rStore shrs_sStore noSh_rStore mStore_wr mStore_n uStore_wr uStore_n noSh_sOutcome noSh_sSlot noSh_sErr noSh_tenant
-- 23 loop.example/g00485/laws.markGram
def k_laws_markGram : K :=
 .seq (
  .reg none [⟨(some 2), none, .boxs 1 (.t 0)⟩,
    ⟨(some 4), none, .asn (.c (.int .i64 (0)))⟩]) (
 .seq (
  .reg none [⟨(some 5), none, .fad 0 (.t 2)⟩,
    ⟨(some 6), none, .ld 1 false (.t 5)⟩,
    ⟨(some 7), none, .mv (.t 1)⟩,
    ⟨(some 8), none, .callr 62 (.t 6) [(.t 6), (.t 7)]⟩,
    ⟨(some 1), none, .asn (.t 8)⟩]) (
 .seq (
  .reg none [⟨(some 9), none, .mv (.t 1)⟩,
    ⟨(some 4), none, .asn (.t 9)⟩]) (
 .ret)))
def r_laws_markGram : Nat × List RV := (10, [.t 4])

theorem c_laws_markGram : cmpS PT PF PB (Try.prog.funcs[23]?) = some (r_laws_markGram.1, r_laws_markGram.2, stripK k_laws_markGram) := by kernel_rfl

theorem h_markGram (a : TGram) (k : Int) (hk : 0 ≤ k) (hk2 : k + uGram.n a < 2 ^ 50) (hk3 : wGram a < 2 ^ 50) :
    CallsB Try.prog 23 [.agg (vGram a), aI k] ⟨90, 1, a.parts.map rISS⟩ ⟨90, 1, (uGram.wr a k).parts.map rISS⟩ (aI (k + uGram.n a)) := by
  refine PrunB c_laws_markGram (by simp [r_laws_markGram]) (by simp) ?_
  unfold k_laws_markGram r_laws_markGram
  simp only [uGram_n, wGram] at hk2 hk3
  obtain ⟨p0, hq0⟩ : ∃ p : Int, p = k + (mI.L.L.nL a.parts : Int) := ⟨_, rfl⟩
  have nn0 : ¬ p0 < 0 := by omega
  simp only [uGram_wr, ← hq0]
  simp [vGram, nn0]
  have hc0 := h_markIntSSS 90 a.parts k (by omega) (by omega) (by omega)
  simp only [← hq0] at hc0
  refine callRG_F hc0 rfl rfl (by simp) (by simp) ?_
  simp [nn0]
  try omega
end Go.Am
-- Conf_eq1
namespace Go.Am
open Go.Proofs
set_option maxHeartbeats 4000000
set_option maxRecDepth 100000
attribute [-simp] BitVec.toNat_or BitVec.toNat_and BitVec.toNat_ofInt
attribute [-simp] rIS_len sIS_len shr_rIS shr_sIS shrs_rIS shrs_sIS noSh_rIS rISS_len sISS_len shr_rISS shr_sISS shrs_rISS shrs_sISS noSh_rISS rGram_len sGram_len shr_rGram shr_sGram shrs_rGram shrs_sGram noSh_rGram mGram_wr mGram_n cS_t cS_f row20_len row20_sc row20_view row20_store row20_aff row20_ref row20_noSh row20_shr row20_lend row20_take row20_drop rB_len setR_noSh rErr_len sErr_len shr_rErr shr_sErr shrs_rErr shrs_sErr noSh_rErr mErr_wr mErr_n rSlot_len sSlot_len shr_rSlot shr_sSlot shrs_rSlot shrs_sSlot noSh_rSlot mSlot_wr mSlot_n rNode_len sNode_len shr_rNode shr_sNode shrs_rNode shrs_sNode noSh_rNode mNode_wr mNode_n rTree_len sTree_len shr_rTree shr_sTree shrs_rTree shrs_sTree noSh_rTree mTree_wr mTree_n rRun_len sRun_len shr_rRun shr_sRun shrs_rRun shrs_sRun noSh_rRun mRun_wr mRun_n rJob_len sJob_len shr_rJob shr_sJob shrs_rJob shrs_sJob noSh_rJob mJob_wr mJob_n rOutcome_len sOutcome_len shr_rOutcome shr_sOutcome shrs_rOutcome shrs_sOutcome noSh_rOutcome mOutcome_wr mOutcome_n rTenant_len sTenant_len shr_rTenant shr_sTenant shrs_rTenant shrs_sTenant noSh_rTenant mTenant_wr mTenant_n uTenant_wr uTenant_n rLine_len sLine_len shr_rLine shr_sLine shrs_rLine shrs_sLine noSh_rLine mLine_wr mLine_n rStore_len sStore_len shr_rStore shr_sStore shrs_rStore shrs_sStore noSh_rStore mStore_wr mStore_n uStore_wr uStore_n noSh_sOutcome noSh_sSlot noSh_sErr noSh_tenant uGram_wr uGram_n mIS_n1 mIS_wr1 mISS_n1 mISS_wr1
-- 60 loop.example/g00485/laws.eqConf
def k_laws_eqConf : K :=
 .seq (
  .reg none [⟨(some 2), none, .box 96 2 (.t 0)⟩,
    ⟨(some 3), none, .box 96 2 (.t 1)⟩,
    ⟨(some 4), none, .asn (.c (.bool false))⟩]) (
 .seq (
  .seq (
   .reg none [⟨(some 5), none, .fad 0 (.t 2)⟩,
     ⟨(some 6), none, .ld 1 false (.t 5)⟩,
     ⟨(some 7), none, .fad 0 (.t 3)⟩,
     ⟨(some 8), none, .ld 1 false (.t 7)⟩,
     ⟨(some 9), none, .bin .neq (.t 6) (.t 8)⟩]) (
  .cond (.t 9) (
   .seq (
    .reg none [⟨(some 4), none, .asn (.c (.bool false))⟩]) (
   .ret)) (
   .skip))) (
 .seq (
  .seq (
   .reg none [⟨(some 10), none, .fad 1 (.t 2)⟩,
     ⟨(some 11), none, .ld 1 false (.t 10)⟩,
     ⟨(some 12), none, .fad 1 (.t 3)⟩,
     ⟨(some 13), none, .ld 1 false (.t 12)⟩,
     ⟨(some 14), none, .call 22 [(.t 11), (.t 13)]⟩,
     ⟨(some 15), none, .not (.t 14)⟩]) (
  .cond (.t 15) (
   .seq (
    .reg none [⟨(some 4), none, .asn (.c (.bool false))⟩]) (
   .ret)) (
   .skip))) (
 .seq (
  .reg none [⟨(some 4), none, .asn (.c (.bool true))⟩]) (
 .ret))))
def r_laws_eqConf : Nat × List RV := (16, [.t 4])

theorem c_laws_eqConf : cmpS PT PF PA (Try.prog.funcs[60]?) = some (r_laws_eqConf.1, r_laws_eqConf.2, stripK k_laws_eqConf) := by kernel_rfl

theorem h_eqConf (a : TConf) (ha : wConf a < 2 ^ 40) : CallsF Try.prog 60 [.agg (sConf a), .agg (sConf a)] (aB true) := by
  refine Prun c_laws_eqConf (by simp [r_laws_eqConf]) (by simp) ?_
  unfold k_laws_eqConf r_laws_eqConf
  simp only [wConf] at ha
  simp [sConf]
  refine callG_F (h_eqIntS a.row (by omega)) (by simp) ?_
  simp
end Go.Am
-- Conf_eq
namespace Go.Am
open Go.Proofs
set_option maxHeartbeats 4000000
set_option maxRecDepth 100000
attribute [-simp] BitVec.toNat_or BitVec.toNat_and BitVec.toNat_ofInt
attribute [-simp] rIS_len sIS_len shr_rIS shr_sIS shrs_rIS shrs_sIS noSh_rIS rISS_len sISS_len shr_rISS shr_sISS shrs_rISS shrs_sISS noSh_rISS rGram_len sGram_len shr_rGram shr_sGram shrs_rGram shrs_sGram noSh_rGram mGram_wr mGram_n cS_t cS_f row20_len row20_sc row20_view row20_store row20_aff row20_ref row20_noSh row20_shr row20_lend row20_take row20_drop rB_len setR_noSh rErr_len sErr_len shr_rErr shr_sErr shrs_rErr shrs_sErr noSh_rErr mErr_wr mErr_n rSlot_len sSlot_len shr_rSlot shr_sSlot shrs_rSlot shrs_sSlot noSh_rSlot mSlot_wr mSlot_n rNode_len sNode_len shr_rNode shr_sNode shrs_rNode shrs_sNode noSh_rNode mNode_wr mNode_n rTree_len sTree_len shr_rTree shr_sTree shrs_rTree shrs_sTree noSh_rTree mTree_wr mTree_n rRun_len sRun_len shr_rRun shr_sRun shrs_rRun shrs_sRun noSh_rRun mRun_wr mRun_n rJob_len sJob_len shr_rJob shr_sJob shrs_rJob shrs_sJob noSh_rJob mJob_wr mJob_n rOutcome_len sOutcome_len shr_rOutcome shr_sOutcome shrs_rOutcome shrs_sOutcome noSh_rOutcome mOutcome_wr mOutcome_n rTenant_len sTenant_len shr_rTenant shr_sTenant shrs_rTenant shrs_sTenant noSh_rTenant mTenant_wr mTenant_n uTenant_wr uTenant_n rLine_len sLine_len shr_rLine shr_sLine shrs_rLine shrs_sLine noSh_rLine mLine_wr mLine_n rStore_len sStore_len shr_rStore shr_sStore shrs_rStore shrs_sStore noSh_rStore mStore_wr mStore_n uStore_wr uStore_n noSh_sOutcome noSh_sSlot noSh_sErr noSh_tenant uGram_wr uGram_n mIS_n1 mIS_wr1 mISS_n1 mISS_wr1
-- 20 loop.example/g00485/laws.eqConfS
def k_laws_eqConfS : K :=
 .seq (
  .reg none [⟨(some 4), none, .asn (.c (.bool false))⟩]) (
 .seq (
  .seq (
   .reg none [⟨(some 6), none, .mv (.t 0)⟩,
     ⟨(some 7), none, .len (.t 6)⟩,
     ⟨(some 8), none, .mv (.t 1)⟩,
     ⟨(some 9), none, .len (.t 8)⟩,
     ⟨(some 10), none, .bin .neq (.t 7) (.t 9)⟩]) (
  .cond (.t 10) (
   .seq (
    .reg none [⟨(some 4), none, .asn (.c (.bool false))⟩]) (
   .ret)) (
   .skip))) (
 .seq (
  .seq (
   .reg none [⟨(some 5), none, .asn (.c (.int .i64 (0)))⟩]) (
  .block 0 (
   .loop (some ([0, 1, 5], [0, 1, 5, 1000])) (
    .seq (
     .seq (
      .reg none [⟨(some 11), none, .mv (.t 5)⟩,
        ⟨(some 12), none, .mv (.t 0)⟩,
        ⟨(some 13), none, .len (.t 12)⟩,
        ⟨(some 14), none, .bin .lss (.t 11) (.t 13)⟩]) (
     .cond (.t 14) (
      .skip) (
      .exit 0))) (
    .seq (
     .block 1 (
      .seq (
       .drw none 10 [⟨(some 17), none, .mv (.t 0)⟩,
         ⟨(some 18), none, .mv (.t 5)⟩,
         ⟨(some 19), none, .iad 2 (.t 17) (.t 18)⟩,
         ⟨(some 20), none, .ld 2 true (.t 19)⟩,
         ⟨(some 21), none, .mv (.t 1)⟩,
         ⟨(some 22), none, .mv (.t 5)⟩,
         ⟨(some 23), none, .iad 2 (.t 21) (.t 22)⟩,
         ⟨(some 24), none, .ld 2 true (.t 23)⟩,
         ⟨(some 25), none, .call 60 [(.t 20), (.t 24)]⟩,
         ⟨(some 26), none, .not (.t 25)⟩]) (
      .cond (.t 26) (
       .seq (
        .reg none [⟨(some 4), none, .asn (.c (.bool false))⟩]) (
       .ret)) (
       .skip)))) (
    .reg none [⟨(some 15), none, .mv (.t 5)⟩,
      ⟨(some 16), none, .bin .add (.t 15) (.c (.int .i64 (1)))⟩,
      ⟨(some 5), none, .asn (.t 16)⟩])))))) (
 .seq (
  .reg none [⟨(some 4), none, .asn (.c (.bool true))⟩]) (
 .ret))))
def r_laws_eqConfS : Nat × List RV := (27, [.t 4])

theorem c_laws_eqConfS : cmpS PT PF PA (Try.prog.funcs[20]?) = some (r_laws_eqConfS.1, r_laws_eqConfS.2, stripK k_laws_eqConfS) := by kernel_rfl

theorem h_eqConfS (xs : List TConf) (hx : wL wConf xs < 2 ^ 40) : CallsF Try.prog 20 [.one (.ar false 0 2 (xs.map sConf)), .one (.ar false 0 2 (xs.map sConf))] (aB true) := by
  refine Prun c_laws_eqConfS (by simp [r_laws_eqConfS]) (by simp) ?_
  unfold k_laws_eqConfS r_laws_eqConfS
  have hlen := wL_len wConf xs
  simp
  refine awp_loop (fun n σ => ∃ i : Nat, i ≤ xs.length ∧ n = xs.length - i ∧ σ = ⟨[(0, .one (.ar false 0 2 (xs.map sConf))), (1, .one (.ar false 0 2 (xs.map sConf))), (5, aI i)], []⟩) (xs.length) ⟨0, by simp⟩ ?_
  rintro n σ ⟨i, hi, rfl, rfl⟩
  by_cases h : i < xs.length
  · have hw := wL_get wConf xs i h
    simp [h, sConf]
    refine ⟨_, by simp, h_eqConf xs[i] (by omega), ?_⟩
    simp
    refine ⟨xs.length - (i + 1), by omega, i + 1, by omega, rfl, ?_⟩
    rw [wrapI (by omega) (by omega)]
    simp
  · simp [h]
end Go.Am
-- Conf_mk
namespace Go.Am
open Go.Proofs
set_option maxHeartbeats 4000000
set_option maxRecDepth 100000
attribute [-simp] BitVec.toNat_or BitVec.toNat_and BitVec.toNat_ofInt
attribute [-simp] rIS_len sIS_len shr_rIS shr_sIS shrs_rIS shrs_sIS noSh_rIS rISS_len sISS_len shr_rISS shr_sISS shrs_rISS shrs_sISS noSh_rISS rGram_len sGram_len shr_rGram shr_sGram shrs_rGram shrs_sGram noSh_rGram mGram_wr mGram_n cS_t cS_f row20_len row20_sc row20_view row20_store row20_aff row20_ref row20_noSh row20_shr row20_lend row20_take row20_drop rB_len setR_noSh rErr_len sErr_len shr_rErr shr_sErr shrs_rErr shrs_sErr noSh_rErr mErr_wr mErr_n rSlot_len sSlot_len shr_rSlot shr_sSlot shrs_rSlot shrs_sSlot noSh_rSlot mSlot_wr mSlot_n rNode_len sNode_len shr_rNode shr_sNode shrs_rNode shrs_sNode noSh_rNode mNode_wr mNode_n rTree_len sTree_len shr_rTree shr_sTree shrs_rTree shrs_sTree noSh_rTree mTree_wr mTree_n rRun_len sRun_len shr_rRun shr_sRun shrs_rRun shrs_sRun noSh_rRun mRun_wr mRun_n rJob_len sJob_len shr_rJob shr_sJob shrs_rJob shrs_sJob noSh_rJob mJob_wr mJob_n rOutcome_len sOutcome_len shr_rOutcome shr_sOutcome shrs_rOutcome shrs_sOutcome noSh_rOutcome mOutcome_wr mOutcome_n rTenant_len sTenant_len shr_rTenant shr_sTenant shrs_rTenant shrs_sTenant noSh_rTenant mTenant_wr mTenant_n uTenant_wr uTenant_n rLine_len sLine_len shr_rLine shr_sLine shrs_rLine shrs_sLine noSh_rLine mLine_wr mLine_n rStore_len sStore_len shr_rStore shr_sStore shrs_rStore shrs_sStore noSh_rStore mStore_wr mStore_n uStore_wr uStore_n noSh_sOutcome noSh_sSlot noSh_sErr noSh_tenant uGram_wr uGram_n mIS_n1 mIS_wr1 mISS_n1 mISS_wr1
-- 25 loop.example/g00485/laws.markConfS
def k_laws_markConfS : K :=
 .seq (
  .reg none [⟨(some 4), none, .asn (.c (.int .i64 (0)))⟩]) (
 .seq (
  .seq (
   .reg none [⟨(some 5), none, .asn (.c (.int .i64 (0)))⟩]) (
  .block 0 (
   .loop (some ([0, 1, 5], [0, 1, 5, 1000])) (
    .seq (
     .seq (
      .reg none [⟨(some 6), none, .mv (.t 5)⟩,
        ⟨(some 7), none, .mv (.t 0)⟩,
        ⟨(some 8), none, .len (.t 7)⟩,
        ⟨(some 9), none, .bin .lss (.t 6) (.t 8)⟩]) (
     .cond (.t 9) (
      .skip) (
      .exit 0))) (
    .seq (
     .block 1 (
      .seq (
       .reg none [⟨(some 12), none, .mv (.t 0)⟩,
         ⟨(some 13), none, .mv (.t 5)⟩,
         ⟨(some 14), none, .mv (.t 1)⟩,
         ⟨(some 15), none, .iad 2 (.t 12) (.t 13)⟩,
         ⟨(some 16), none, .fad 0 (.t 15)⟩,
         ⟨none, none, .st 1 false (.t 16) (.t 14)⟩]) (
      .seq (
       .reg none [⟨(some 17), none, .mv (.t 1)⟩,
         ⟨(some 18), none, .bin .add (.t 17) (.c (.int .i64 (1)))⟩,
         ⟨(some 1), none, .asn (.t 18)⟩]) (
      .reg none [⟨(some 19), none, .mv (.t 0)⟩,
        ⟨(some 20), none, .mv (.t 5)⟩,
        ⟨(some 21), none, .iad 2 (.t 19) (.t 20)⟩,
        ⟨(some 22), none, .fad 1 (.t 21)⟩,
        ⟨(some 23), none, .ld 1 false (.t 22)⟩,
        ⟨(some 24), none, .mv (.t 1)⟩,
        ⟨(some 25), none, .callr 24 (.t 23) [(.t 23), (.t 24)]⟩,
        ⟨(some 1), none, .asn (.t 25)⟩])))) (
    .reg none [⟨(some 10), none, .mv (.t 5)⟩,
      ⟨(some 11), none, .bin .add (.t 10) (.c (.int .i64 (1)))⟩,
      ⟨(some 5), none, .asn (.t 11)⟩])))))) (
 .seq (
  .reg none [⟨(some 26), none, .mv (.t 1)⟩,
    ⟨(some 4), none, .asn (.t 26)⟩]) (
 .ret)))
def r_laws_markConfS : Nat × List RV := (27, [.t 4])

theorem c_laws_markConfS : cmpS PT PF PB (Try.prog.funcs[25]?) = some (r_laws_markConfS.1, r_laws_markConfS.2, stripK k_laws_markConfS) := by kernel_rfl

theorem h_markConfS (t : Nat) (xs : List TConf) (k : Int) (hk : 0 ≤ k) (hk2 : k + mConf.nL xs < 2 ^ 50) (hk3 : wL wConf xs < 2 ^ 50) :
    CallsB Try.prog 25 [.one (.vw t 2 1000 [] 0 xs.length), aI k] ⟨t, 2, xs.map rConf⟩ ⟨t, 2, (mConf.mkL xs k).map rConf⟩ (aI (k + mConf.nL xs)) := by
  refine PrunB c_laws_markConfS (by simp [r_laws_markConfS]) (by simp) ?_
  unfold k_laws_markConfS r_laws_markConfS
  have hlen := wL_len wConf xs
  simp
  refine awp_loop (fun n σ => ∃ i : Nat, i ≤ xs.length ∧ n = xs.length - i ∧ σ = ⟨[(0, .one (.vw t 2 1000 [] 0 xs.length)), (1, aI (mConf.pos xs k i)), (5, aI i)], [(1000, ⟨t, 2, (mConf.upto xs k i).map rConf⟩)]⟩) (xs.length) ⟨0, by simp [Mk.upto_zero, Mk.pos_zero]⟩ ?_
  rintro n σ ⟨i, hi, rfl, rfl⟩
  have hp1 : mConf.pos xs k i ≤ k + mConf.nL xs := Mk.pos_le hi
  have hp2 : k ≤ mConf.pos xs k i := Mk.pos_ge
  by_cases h : i < xs.length
  · have hw := wL_get wConf xs i h
    have hpst : mConf.pos xs k (i + 1) = mConf.pos xs k i + mConf.n xs[i] := Mk.pos_step h
    have hle : mConf.pos xs k (i + 1) ≤ k + mConf.nL xs := Mk.pos_le h
    have hst := Mk.upto_set (M := mConf) (k := k) h
    have hga := Mk.upto_at (M := mConf) (k := k) h
    have hll := Mk.upto_len (M := mConf) (xs := xs) (k := k) (i := i)
    generalize mConf.upto xs k i = us at *
    generalize hκ : mConf.pos xs k i = p0 at *
    rcases ha : xs[i] with ⟨balt, brow⟩
    simp only [ha, mConf_n, mConf_wr] at hpst hga hst
    simp only [ha, wConf] at hw
    obtain ⟨p1, hq1⟩ : ∃ p : Int, p = p0 + 1 := ⟨_, rfl⟩
    have ww0 : IntKind.i64.wrap (p0 + 1) = p1 := by rw [wrapI (by omega) (by omega), hq1]
    have nn0 : ¬ p1 < 0 := by omega
    obtain ⟨p2, hq2⟩ : ∃ p : Int, p = p1 + (mI.nL brow : Int) := ⟨_, rfl⟩
    have nn1 : ¬ p2 < 0 := by omega
    simp only [← hq1, ← hq2] at hga hst
    simp [h, hga, hll, rConf, ww0, nn0, nn1]
    have hc1 := h_markIntS 3 brow p1 (by omega) (by omega)
    rw [← hq2] at hc1
    refine callRG_F hc1 rfl rfl (by simp) (by simp) ?_
    simp [h, hga, hll, rConf, ww0, nn0, nn1]
    refine ⟨xs.length - (i + 1), by omega, i + 1, by omega, rfl, ?_⟩
    rw [wrapI (by omega) (by omega)]
    rw [← hst]
    simp [rConf]
    omega
  · have : i = xs.length := by omega
    subst this
    simp [Mk.upto_all, Mk.pos_all]
end Go.Am
-- inth
namespace Go.Am
open Go.Proofs
set_option maxHeartbeats 4000000
set_option maxRecDepth 100000
attribute [-simp] BitVec.toNat_or BitVec.toNat_and BitVec.toNat_ofInt
attribute [-simp] rConf_len sConf_len shr_rConf shr_sConf shrs_rConf shrs_sConf noSh_rConf mConf_wr mConf_n rIS_len sIS_len shr_rIS shr_sIS shrs_rIS shrs_sIS noSh_rIS rISS_len sISS_len shr_rISS shr_sISS shrs_rISS shrs_sISS noSh_rISS rGram_len sGram_len shr_rGram shr_sGram shrs_rGram shrs_sGram noSh_rGram mGram_wr mGram_n cS_t cS_f row20_len row20_sc row20_view row20_store row20_aff row20_ref row20_noSh row20_shr row20_lend row20_take row20_drop rB_len setR_noSh rErr_len sErr_len shr_rErr shr_sErr shrs_rErr shrs_sErr noSh_rErr mErr_wr mErr_n rSlot_len sSlot_len shr_rSlot shr_sSlot shrs_rSlot shrs_sSlot noSh_rSlot mSlot_wr mSlot_n rNode_len sNode_len shr_rNode shr_sNode shrs_rNode shrs_sNode noSh_rNode mNode_wr mNode_n rTree_len sTree_len shr_rTree shr_sTree shrs_rTree shrs_sTree noSh_rTree mTree_wr mTree_n rRun_len sRun_len shr_rRun shr_sRun shrs_rRun shrs_sRun noSh_rRun mRun_wr mRun_n rJob_len sJob_len shr_rJob shr_sJob shrs_rJob shrs_sJob noSh_rJob mJob_wr mJob_n rOutcome_len sOutcome_len shr_rOutcome shr_sOutcome shrs_rOutcome shrs_sOutcome noSh_rOutcome mOutcome_wr mOutcome_n rTenant_len sTenant_len shr_rTenant shr_sTenant shrs_rTenant shrs_sTenant noSh_rTenant mTenant_wr mTenant_n uTenant_wr uTenant_n rLine_len sLine_len shr_rLine shr_sLine shrs_rLine shrs_sLine noSh_rLine mLine_wr mLine_n rStore_len sStore_len shr_rStore shr_sStore shrs_rStore shrs_sStore noSh_rStore mStore_wr mStore_n uStore_wr uStore_n noSh_sOutcome noSh_sSlot noSh_sErr noSh_tenant uGram_wr uGram_n mIS_n1 mIS_wr1 mISS_n1 mISS_wr1
-- 63 loop.example/g00485/laws.heldIntS
def k_laws_heldIntS : K :=
 .seq (
  .reg none [⟨(some 4), none, .asn (.c (.int .i64 (0)))⟩]) (
 .seq (
  .seq (
   .reg none [⟨(some 5), none, .asn (.c (.int .i64 (0)))⟩]) (
  .block 0 (
   .loop (some ([0, 1, 5], [0, 1, 5, 1000])) (
    .seq (
     .seq (
      .reg none [⟨(some 6), none, .mv (.t 5)⟩,
        ⟨(some 7), none, .mv (.t 0)⟩,
        ⟨(some 8), none, .len (.t 7)⟩,
        ⟨(some 9), none, .bin .lss (.t 6) (.t 8)⟩]) (
     .cond (.t 9) (
      .skip) (
      .exit 0))) (
    .seq (
     .block 1 (
      .seq (
       .seq (
        .reg none [⟨(some 12), none, .mv (.t 0)⟩,
          ⟨(some 13), none, .mv (.t 5)⟩,
          ⟨(some 14), none, .iad 1 (.t 12) (.t 13)⟩,
          ⟨(some 15), none, .ld 1 false (.t 14)⟩,
          ⟨(some 16), none, .mv (.t 1)⟩,
          ⟨(some 17), none, .bin .neq (.t 15) (.t 16)⟩]) (
       .cond (.t 17) (
        .seq (
         .reg none [⟨(some 4), none, .asn (.c (.int .i64 (-1)))⟩]) (
        .ret)) (
        .skip))) (
      .reg none [⟨(some 18), none, .mv (.t 1)⟩,
        ⟨(some 19), none, .bin .add (.t 18) (.c (.int .i64 (1)))⟩,
        ⟨(some 1), none, .asn (.t 19)⟩]))) (
    .reg none [⟨(some 10), none, .mv (.t 5)⟩,
      ⟨(some 11), none, .bin .add (.t 10) (.c (.int .i64 (1)))⟩,
      ⟨(some 5), none, .asn (.t 11)⟩])))))) (
 .seq (
  .reg none [⟨(some 20), none, .mv (.t 1)⟩,
    ⟨(some 4), none, .asn (.t 20)⟩]) (
 .ret)))
def r_laws_heldIntS : Nat × List RV := (21, [.t 4])

theorem c_laws_heldIntS : cmpS PT PF PA (Try.prog.funcs[63]?) = some (r_laws_heldIntS.1, r_laws_heldIntS.2, stripK k_laws_heldIntS) := by kernel_rfl

theorem h_heldIntS (xs : List Int) (k : Int) (hk : 0 ≤ k) (hk2 : k + mI.nL xs < 2 ^ 50) : CallsF Try.prog 63 [.one (.ar false 0 1 ((mI.mkL xs k).map rI)), aI k] (aI (k + mI.nL xs)) := by
  refine Prun c_laws_heldIntS (by simp [r_laws_heldIntS]) (by simp) ?_
  unfold k_laws_heldIntS r_laws_heldIntS
  simp
  refine awp_loop (fun n σ => ∃ i : Nat, i ≤ xs.length ∧ n = xs.length - i ∧ σ = ⟨[(0, .one (.ar false 0 1 ((mI.mkL xs k).map rI))), (1, aI (mI.pos xs k i)), (5, aI i)], []⟩) (xs.length) ⟨0, by simp [Mk.pos_zero]⟩ ?_
  rintro n σ ⟨i, hi, rfl, rfl⟩
  have hn : (mI.nL xs : Int) = xs.length := by simp [mI_n]
  have hp1 : mI.pos xs k i ≤ k + mI.nL xs := Mk.pos_le hi
  have hp2 : k ≤ mI.pos xs k i := Mk.pos_ge
  by_cases h : i < xs.length
  · have hpst : mI.pos xs k (i + 1) = mI.pos xs k i + 1 := Mk.pos_step h
    have hle : mI.pos xs k (i + 1) ≤ k + mI.nL xs := Mk.pos_le h
    have w1 : IntKind.i64.wrap (mI.pos xs k i + 1) = mI.pos xs k (i + 1) := by rw [wrapI (by omega) (by omega), hpst]
    have w2 : IntKind.i64.wrap ((i : Int) + 1) = i + 1 := wrapI (by omega) (by omega)
    simp [h, Mk.mkL_at h, w1, w2]
    exact ⟨xs.length - (i + 1), by omega, i + 1, by omega, rfl, by simp⟩
  · have : i = xs.length := by omega
    subst this
    simp [Mk.pos_all]
end Go.Am
-- Conf_hd
namespace Go.Am
open Go.Proofs
set_option maxHeartbeats 4000000
set_option maxRecDepth 100000
attribute [-simp] BitVec.toNat_or BitVec.toNat_and BitVec.toNat_ofInt
attribute [-simp] rIS_len sIS_len shr_rIS shr_sIS shrs_rIS shrs_sIS noSh_rIS rISS_len sISS_len shr_rISS shr_sISS shrs_rISS shrs_sISS noSh_rISS rGram_len sGram_len shr_rGram shr_sGram shrs_rGram shrs_sGram noSh_rGram mGram_wr mGram_n cS_t cS_f row20_len row20_sc row20_view row20_store row20_aff row20_ref row20_noSh row20_shr row20_lend row20_take row20_drop rB_len setR_noSh rErr_len sErr_len shr_rErr shr_sErr shrs_rErr shrs_sErr noSh_rErr mErr_wr mErr_n rSlot_len sSlot_len shr_rSlot shr_sSlot shrs_rSlot shrs_sSlot noSh_rSlot mSlot_wr mSlot_n rNode_len sNode_len shr_rNode shr_sNode shrs_rNode shrs_sNode noSh_rNode mNode_wr mNode_n rTree_len sTree_len shr_rTree shr_sTree shrs_rTree shrs_sTree noSh_rTree mTree_wr mTree_n rRun_len sRun_len shr_rRun shr_sRun shrs_rRun shrs_sRun noSh_rRun mRun_wr mRun_n rJob_len sJob_len shr_rJob shr_sJob shrs_rJob shrs_sJob noSh_rJob mJob_wr mJob_n rOutcome_len sOutcome_len shr_rOutcome shr_sOutcome shrs_rOutcome shrs_sOutcome noSh_rOutcome mOutcome_wr mOutcome_n rTenant_len sTenant_len shr_rTenant shr_sTenant shrs_rTenant shrs_sTenant noSh_rTenant mTenant_wr mTenant_n uTenant_wr uTenant_n rLine_len sLine_len shr_rLine shr_sLine shrs_rLine shrs_sLine noSh_rLine mLine_wr mLine_n rStore_len sStore_len shr_rStore shr_sStore shrs_rStore shrs_sStore noSh_rStore mStore_wr mStore_n uStore_wr uStore_n noSh_sOutcome noSh_sSlot noSh_sErr noSh_tenant uGram_wr uGram_n mIS_n1 mIS_wr1 mISS_n1 mISS_wr1
-- 26 loop.example/g00485/laws.heldConfS
def k_laws_heldConfS : K :=
 .seq (
  .reg none [⟨(some 4), none, .asn (.c (.int .i64 (0)))⟩]) (
 .seq (
  .seq (
   .reg none [⟨(some 5), none, .asn (.c (.int .i64 (0)))⟩]) (
  .block 0 (
   .loop (some ([0, 1, 5], [0, 1, 5, 1000])) (
    .seq (
     .seq (
      .reg none [⟨(some 6), none, .mv (.t 5)⟩,
        ⟨(some 7), none, .mv (.t 0)⟩,
        ⟨(some 8), none, .len (.t 7)⟩,
        ⟨(some 9), none, .bin .lss (.t 6) (.t 8)⟩]) (
     .cond (.t 9) (
      .skip) (
      .exit 0))) (
    .seq (
     .block 1 (
      .seq (
       .seq (
        .reg none [⟨(some 12), none, .mv (.t 0)⟩,
          ⟨(some 13), none, .mv (.t 5)⟩,
          ⟨(some 14), none, .iad 2 (.t 12) (.t 13)⟩,
          ⟨(some 15), none, .fad 0 (.t 14)⟩,
          ⟨(some 16), none, .ld 1 false (.t 15)⟩,
          ⟨(some 17), none, .mv (.t 1)⟩,
          ⟨(some 18), none, .bin .neq (.t 16) (.t 17)⟩]) (
       .cond (.t 18) (
        .seq (
         .reg none [⟨(some 4), none, .asn (.c (.int .i64 (-1)))⟩]) (
        .ret)) (
        .skip))) (
      .seq (
       .reg none [⟨(some 19), none, .mv (.t 1)⟩,
         ⟨(some 20), none, .bin .add (.t 19) (.c (.int .i64 (1)))⟩,
         ⟨(some 1), none, .asn (.t 20)⟩]) (
      .seq (
       .reg none [⟨(some 21), none, .mv (.t 0)⟩,
         ⟨(some 22), none, .mv (.t 5)⟩,
         ⟨(some 23), none, .iad 2 (.t 21) (.t 22)⟩,
         ⟨(some 24), none, .fad 1 (.t 23)⟩,
         ⟨(some 25), none, .ld 1 false (.t 24)⟩,
         ⟨(some 26), none, .mv (.t 1)⟩,
         ⟨(some 27), none, .call 63 [(.t 25), (.t 26)]⟩,
         ⟨(some 1), none, .asn (.t 27)⟩]) (
      .seq (
       .reg none [⟨(some 28), none, .mv (.t 1)⟩,
         ⟨(some 29), none, .bin .lss (.t 28) (.c (.int .i64 (0)))⟩]) (
      .cond (.t 29) (
       .seq (
        .reg none [⟨(some 4), none, .asn (.c (.int .i64 (-1)))⟩]) (
       .ret)) (
       .skip))))))) (
    .reg none [⟨(some 10), none, .mv (.t 5)⟩,
      ⟨(some 11), none, .bin .add (.t 10) (.c (.int .i64 (1)))⟩,
      ⟨(some 5), none, .asn (.t 11)⟩])))))) (
 .seq (
  .reg none [⟨(some 30), none, .mv (.t 1)⟩,
    ⟨(some 4), none, .asn (.t 30)⟩]) (
 .ret)))
def r_laws_heldConfS : Nat × List RV := (31, [.t 4])

theorem c_laws_heldConfS : cmpS PT PF PA (Try.prog.funcs[26]?) = some (r_laws_heldConfS.1, r_laws_heldConfS.2, stripK k_laws_heldConfS) := by kernel_rfl

theorem h_heldConfS (xs : List TConf) (k : Int) (hk : 0 ≤ k) (hk2 : k + mConf.nL xs < 2 ^ 50) (hk3 : wL wConf xs < 2 ^ 50) : CallsF Try.prog 26 [.one (.ar false 0 2 ((mConf.mkL xs k).map sConf)), aI k] (aI (k + mConf.nL xs)) := by
  refine Prun c_laws_heldConfS (by simp [r_laws_heldConfS]) (by simp) ?_
  unfold k_laws_heldConfS r_laws_heldConfS
  have hlen := wL_len wConf xs
  simp
  refine awp_loop (fun n σ => ∃ i : Nat, i ≤ xs.length ∧ n = xs.length - i ∧ σ = ⟨[(0, .one (.ar false 0 2 ((mConf.mkL xs k).map sConf))), (1, aI (mConf.pos xs k i)), (5, aI i)], []⟩) (xs.length) ⟨0, by simp [Mk.pos_zero]⟩ ?_
  rintro n σ ⟨i, hi, rfl, rfl⟩
  have hp1 : mConf.pos xs k i ≤ k + mConf.nL xs := Mk.pos_le hi
  have hp2 : k ≤ mConf.pos xs k i := Mk.pos_ge
  by_cases h : i < xs.length
  · have hw := wL_get wConf xs i h
    have hpst : mConf.pos xs k (i + 1) = mConf.pos xs k i + mConf.n xs[i] := Mk.pos_step h
    have hle : mConf.pos xs k (i + 1) ≤ k + mConf.nL xs := Mk.pos_le h
    have hga := Mk.mkL_at (M := mConf) (k := k) h
    generalize hκ : mConf.pos xs k i = p0 at *
    rcases ha : xs[i] with ⟨balt, brow⟩
    simp only [ha, mConf_n, mConf_wr] at hpst hga
    simp only [ha, wConf] at hw
    obtain ⟨p1, hq1⟩ : ∃ p : Int, p = p0 + 1 := ⟨_, rfl⟩
    have ww0 : IntKind.i64.wrap (p0 + 1) = p1 := by rw [wrapI (by omega) (by omega), hq1]
    have nn0 : ¬ p1 < 0 := by omega
    obtain ⟨p2, hq2⟩ : ∃ p : Int, p = p1 + (mI.nL brow : Int) := ⟨_, rfl⟩
    have nn1 : ¬ p2 < 0 := by omega
    simp only [← hq1, ← hq2] at hga
    simp [h, hga, sConf, ww0, nn0, nn1]
    have hc1 := h_heldIntS brow p1 (by omega) (by omega)
    rw [← hq2] at hc1
    refine callG_F hc1 (by simp) ?_
    simp [h, hga, sConf, ww0, nn0, nn1]
    refine ⟨xs.length - (i + 1), by omega, i + 1, by omega, rfl, ?_⟩
    rw [wrapI (by omega) (by omega)]
    simp; omega
  · have : i = xs.length := by omega
    subst this
    simp [Mk.pos_all]
end Go.Am
-- L_SetStart
namespace Go.Am
open Go.Proofs
set_option maxHeartbeats 4000000
set_option maxRecDepth 100000
attribute [-simp] BitVec.toNat_or BitVec.toNat_and BitVec.toNat_ofInt
theorem closO_bound {ps : Parts} {i S : List TConf} (h : closO ps i = some S) : S.length ≤ 30 ∧ ∀ x ∈ S, x.row.length ≤ 200 := by
  unfold closO at h
  split at h
  · rename_i hx
    obtain ⟨W, hd⟩ := hx.choose_spec
    simp only [Option.some.injEq] at h
    rw [h] at hd
    exact ⟨hd.ls, fun x hxs => (hd.all x (hd.rs x hxs).1).1⟩
  · cases h
theorem wL_bound {w : TConf → Nat} {m : Nat} : ∀ {S : List TConf}, (∀ x ∈ S, w x ≤ m) → wL w S ≤ S.length * (m + 1)
  | [], _ => by simp [wL]
  | x :: S, h => by
    have h1 := h x (List.mem_cons_self ..)
    have h2 := wL_bound (S := S) fun y hy => h y (List.mem_cons_of_mem _ hy)
    simp only [wL, List.length_cons, Nat.add_mul]
    omega
theorem closO_w {ps : Parts} {i : List TConf} : wL wConf ((closO ps i).getD []) ≤ 10000 := by
  cases h : closO ps i with
  | none => simp [wL]
  | some S =>
    obtain ⟨h1, h2⟩ := closO_bound h
    have h3 := wL_bound (w := wConf) (m := 200) (S := S) fun x hx => by simp only [wConf, wL_w0]; exact h2 x hx
    have : S.length * 201 ≤ 30 * 201 := Nat.mul_le_mul_right _ h1
    simp only [Option.getD_some]
    omega
theorem startG_w (g : TGram) (k : Int) (rest : List Int) : wL wConf ((startG g k rest).getD []) ≤ 10000 := by
  unfold startG startO
  split
  · split
    · exact closO_w
    · simp [wL]
  · simp [wL]
theorem setR_eq (o : Option (List TConf)) : setR o = .tup [(false, [.ar true 96 2 ((o.getD []).map rConf)]), (false, [.bool o.isSome])] := by
  cases o <;> simp [setR, noSet]
theorem setB_eq (b : Bool) (o : Option (List TConf)) : ∃ b', setB b o = .tup [(false, [cS b' (o.getD [])]), (false, [.bool o.isSome])] := by
  cases o with
  | none => exact ⟨true, rfl⟩
  | some S => exact ⟨b, rfl⟩
theorem mConf_nL' : ∀ xs : List TConf, mConf.nL xs = wL wConf xs
  | [] => rfl
  | x :: xs => by rw [Mk.nL, mConf_nL' xs]; simp [wL, wConf, wL_w0, mI_n]; try omega
theorem uGram_le (g : TGram) : uGram.n g ≤ 16 * wGram g := by
  have h1 : ∀ xs : List (List Int), mI.L.nL xs ≤ 16 * wL (wL w0) xs := nL_le _ _ fun x => by
    have := nI_le x
    simp only [mIS_n1]; omega
  have h2 : ∀ xs : List (List (List Int)), mI.L.L.nL xs ≤ 16 * wL (wL (wL w0)) xs := nL_le _ _ fun x => by
    have := h1 x
    simp only [mISS_n1]; omega
  exact h2 g.parts
-- 4 loop.example/g00485/laws.FnExactSetStart
def k_laws_FnExactSetStart : K :=
 .seq (
  .reg none [⟨(some 3), none, .box 33 1 (.t 0)⟩,
    ⟨(some 6), none, .asn (.c (.bool false))⟩]) (
 .seq (
  .seq (
   .reg none [⟨(some 19), none, .mv (.t 2)⟩,
     ⟨(some 20), none, .len (.t 19)⟩,
     ⟨(some 21), none, .bin .gtr (.t 20) (.c (.int .i64 (1048576)))⟩]) (
  .cond (.t 21) (
   .seq (
    .reg none [⟨(some 6), none, .asn (.c (.bool true))⟩]) (
   .ret)) (
   .skip))) (
 .seq (
  .reg none [⟨(some 7), none, .asn (.c (.int .i64 (1048576)))⟩]) (
 .seq (
  .reg none [⟨(some 22), none, .ld 1 true (.t 3)⟩,
    ⟨(some 23), none, .mv (.t 7)⟩,
    ⟨(some 24), none, .call 15 [(.t 22), (.t 23)]⟩,
    ⟨(some 7), none, .asn (.t 24)⟩]) (
 .seq (
  .seq (
   .reg none [⟨(some 25), none, .mv (.t 7)⟩,
     ⟨(some 26), none, .bin .lss (.t 25) (.c (.int .i64 (0)))⟩]) (
  .cond (.t 26) (
   .seq (
    .reg none [⟨(some 6), none, .asn (.c (.bool true))⟩]) (
   .ret)) (
   .skip))) (
 .seq (
  .reg none [⟨(some 28), none, .ld 1 true (.t 3)⟩,
    ⟨(some 29), none, .call 17 [(.t 28)]⟩,
    ⟨(some 30), none, .mv (.t 1)⟩,
    ⟨(some 31), none, .mv (.t 2)⟩,
    ⟨(some 32), none, .call 18 [(.t 31)]⟩,
    ⟨(some 33), none, .callz 16 [29, 32] [(.t 29), (.t 30), (.t 32)]⟩,
    ⟨(some 27), none, .mv (.t 33)⟩,
    ⟨(some 34), none, .ext 0 (.t 27)⟩,
    ⟨(some 35), none, .ext 1 (.t 27)⟩,
    ⟨(some 8), none, .asn (.t 34)⟩,
    ⟨(some 9), none, .asn (.t 35)⟩]) (
 .seq (
  .reg none [⟨(some 36), none, .ld 1 true (.t 3)⟩,
    ⟨(some 37), none, .call 17 [(.t 36)]⟩,
    ⟨(some 10), none, .alc 39 1 [(.ar true 90 1 [])]⟩,
    ⟨none, none, .st 1 false (.t 10) (.t 37)⟩]) (
 .seq (
  .reg none [⟨(some 38), none, .mv (.t 2)⟩,
    ⟨(some 39), none, .call 18 [(.t 38)]⟩,
    ⟨(some 11), none, .asn (.t 39)⟩]) (
 .seq (
  .reg none [⟨(some 41), none, .ld 1 true (.t 10)⟩,
    ⟨(some 42), none, .mv (.t 1)⟩,
    ⟨(some 43), none, .mv (.t 11)⟩,
    ⟨(some 44), none, .call 19 [(.t 41), (.t 42), (.t 43)]⟩,
    ⟨(some 40), none, .mv (.t 44)⟩,
    ⟨(some 45), none, .ext 0 (.t 40)⟩,
    ⟨(some 46), none, .ext 1 (.t 40)⟩,
    ⟨(some 12), none, .asn (.t 45)⟩,
    ⟨(some 13), none, .asn (.t 46)⟩]) (
 .seq (
  .seq (
   .reg none [⟨(some 47), none, .mv (.t 12)⟩,
     ⟨(some 48), none, .mv (.t 8)⟩,
     ⟨(some 49), none, .call 20 [(.t 47), (.t 48)]⟩,
     ⟨(some 50), none, .not (.t 49)⟩,
     ⟨(some 51), none, .mv (.t 50)⟩,
     ⟨(some 52), (some (51, false)), .mv (.t 13)⟩,
     ⟨(some 53), (some (51, false)), .mv (.t 9)⟩,
     ⟨(some 54), (some (51, false)), .beq true (.t 52) (.t 53)⟩,
     ⟨(some 55), none, .pick (.t 51) (.c (.bool true)) (.t 54)⟩]) (
  .cond (.t 55) (
   .seq (
    .reg none [⟨(some 6), none, .asn (.c (.bool false))⟩]) (
   .ret)) (
   .skip))) (
 .seq (
  .seq (
   .grp none 3 [0, 1] [2] [⟨(some 56), none, .ld 1 true (.t 10)⟩,
     ⟨(some 57), none, .ld 1 true (.t 3)⟩,
     ⟨(some 58), none, .call 17 [(.t 57)]⟩,
     ⟨(some 59), none, .call 21 [(.t 56), (.t 58)]⟩,
     ⟨(some 60), none, .not (.t 59)⟩]) (
  .cond (.t 60) (
   .seq (
    .reg none [⟨(some 6), none, .asn (.c (.bool false))⟩]) (
   .ret)) (
   .skip))) (
 .seq (
  .seq (
   .reg none [⟨(some 61), none, .mv (.t 11)⟩,
     ⟨(some 62), none, .mv (.t 2)⟩,
     ⟨(some 63), none, .call 18 [(.t 62)]⟩,
     ⟨(some 64), none, .call 22 [(.t 61), (.t 63)]⟩,
     ⟨(some 65), none, .not (.t 64)⟩]) (
  .cond (.t 65) (
   .seq (
    .reg none [⟨(some 6), none, .asn (.c (.bool false))⟩]) (
   .ret)) (
   .skip))) (
 .seq (
  .reg none [⟨(some 14), none, .asn (.c (.int .i64 (1)))⟩]) (
 .seq (
  .reg none [⟨(some 66), none, .ld 1 true (.t 10)⟩,
    ⟨(some 67), none, .mv (.t 14)⟩,
    ⟨(some 68), none, .callr 23 (.t 66) [(.t 66), (.t 67)]⟩,
    ⟨(some 14), none, .asn (.t 68)⟩]) (
 .seq (
  .reg none [⟨(some 69), none, .mv (.t 11)⟩,
    ⟨(some 70), none, .mv (.t 14)⟩,
    ⟨(some 71), none, .callr 24 (.t 69) [(.t 69), (.t 70)]⟩,
    ⟨(some 14), none, .asn (.t 71)⟩]) (
 .seq (
  .seq (
   .reg none [⟨(some 72), none, .mv (.t 14)⟩,
     ⟨(some 73), none, .bin .lss (.t 72) (.c (.int .i64 (0)))⟩,
     ⟨(some 74), none, .mv (.t 73)⟩,
     ⟨(some 75), (some (74, false)), .mv (.t 12)⟩,
     ⟨(some 76), (some (74, false)), .mv (.t 8)⟩,
     ⟨(some 77), (some (74, false)), .call 20 [(.t 75), (.t 76)]⟩,
     ⟨(some 78), (some (74, false)), .not (.t 77)⟩,
     ⟨(some 79), none, .pick (.t 74) (.c (.bool true)) (.t 78)⟩,
     ⟨(some 80), none, .mv (.t 79)⟩,
     ⟨(some 81), (some (80, false)), .mv (.t 13)⟩,
     ⟨(some 82), (some (80, false)), .mv (.t 9)⟩,
     ⟨(some 83), (some (80, false)), .beq true (.t 81) (.t 82)⟩,
     ⟨(some 84), none, .pick (.t 80) (.c (.bool true)) (.t 83)⟩]) (
  .cond (.t 84) (
   .seq (
    .reg none [⟨(some 6), none, .asn (.c (.bool false))⟩]) (
   .ret)) (
   .skip))) (
 .seq (
  .reg none [⟨(some 15), none, .asn (.c (.int .i64 (1)))⟩]) (
 .seq (
  .reg none [⟨(some 85), none, .mv (.t 12)⟩,
    ⟨(some 86), none, .mv (.t 15)⟩,
    ⟨(some 87), none, .callr 25 (.t 85) [(.t 85), (.t 86)]⟩,
    ⟨(some 15), none, .asn (.t 87)⟩]) (
 .seq (
  .reg none [⟨(some 16), none, .asn (.c (.int .i64 (1)))⟩]) (
 .seq (
  .reg none [⟨(some 88), none, .mv (.t 12)⟩,
    ⟨(some 89), none, .mv (.t 16)⟩,
    ⟨(some 90), none, .call 26 [(.t 88), (.t 89)]⟩,
    ⟨(some 16), none, .asn (.t 90)⟩]) (
 .seq (
  .seq (
   .reg none [⟨(some 91), none, .mv (.t 16)⟩,
     ⟨(some 92), none, .bin .lss (.t 91) (.c (.int .i64 (0)))⟩]) (
  .cond (.t 92) (
   .seq (
    .reg none [⟨(some 6), none, .asn (.c (.bool false))⟩]) (
   .ret)) (
   .skip))) (
 .seq (
  .seq (
   .reg none [⟨(some 93), none, .mv (.t 16)⟩,
     ⟨(some 94), none, .mv (.t 15)⟩,
     ⟨(some 95), none, .bin .neq (.t 93) (.t 94)⟩]) (
  .cond (.t 95) (
   .seq (
    .reg none [⟨(some 6), none, .asn (.c (.bool false))⟩]) (
   .ret)) (
   .skip))) (
 .seq (
  .reg none [⟨(some 97), none, .ld 1 true (.t 3)⟩,
    ⟨(some 98), none, .call 17 [(.t 97)]⟩,
    ⟨(some 99), none, .mv (.t 1)⟩,
    ⟨(some 100), none, .mv (.t 2)⟩,
    ⟨(some 101), none, .call 18 [(.t 100)]⟩,
    ⟨(some 102), none, .call 19 [(.t 98), (.t 99), (.t 101)]⟩,
    ⟨(some 96), none, .mv (.t 102)⟩,
    ⟨(some 103), none, .ext 0 (.t 96)⟩,
    ⟨(some 104), none, .ext 1 (.t 96)⟩,
    ⟨(some 17), none, .asn (.t 103)⟩,
    ⟨(some 18), none, .asn (.t 104)⟩]) (
 .seq (
  .seq (
   .reg none [⟨(some 105), none, .mv (.t 17)⟩,
     ⟨(some 106), none, .mv (.t 8)⟩,
     ⟨(some 107), none, .call 20 [(.t 105), (.t 106)]⟩,
     ⟨(some 108), none, .not (.t 107)⟩,
     ⟨(some 109), none, .mv (.t 108)⟩,
     ⟨(some 110), (some (109, false)), .mv (.t 18)⟩,
     ⟨(some 111), (some (109, false)), .mv (.t 9)⟩,
     ⟨(some 112), (some (109, false)), .beq true (.t 110) (.t 111)⟩,
     ⟨(some 113), none, .pick (.t 109) (.c (.bool true)) (.t 112)⟩]) (
  .cond (.t 113) (
   .seq (
    .reg none [⟨(some 6), none, .asn (.c (.bool false))⟩]) (
   .ret)) (
   .skip))) (
 .seq (
  .reg none [⟨(some 16), none, .asn (.c (.int .i64 (1)))⟩]) (
 .seq (
  .reg none [⟨(some 114), none, .mv (.t 12)⟩,
    ⟨(some 115), none, .mv (.t 16)⟩,
    ⟨(some 116), none, .call 26 [(.t 114), (.t 115)]⟩,
    ⟨(some 16), none, .asn (.t 116)⟩]) (
 .seq (
  .seq (
   .reg none [⟨(some 117), none, .mv (.t 16)⟩,
     ⟨(some 118), none, .bin .lss (.t 117) (.c (.int .i64 (0)))⟩]) (
  .cond (.t 118) (
   .seq (
    .reg none [⟨(some 6), none, .asn (.c (.bool false))⟩]) (
   .ret)) (
   .skip))) (
 .seq (
  .seq (
   .reg none [⟨(some 119), none, .mv (.t 16)⟩,
     ⟨(some 120), none, .mv (.t 15)⟩,
     ⟨(some 121), none, .bin .neq (.t 119) (.t 120)⟩]) (
  .cond (.t 121) (
   .seq (
    .reg none [⟨(some 6), none, .asn (.c (.bool false))⟩]) (
   .ret)) (
   .skip))) (
 .seq (
  .reg none [⟨(some 6), none, .asn (.c (.bool true))⟩]) (
 .ret)))))))))))))))))))))))))))))
def r_laws_FnExactSetStart : Nat × List RV := (122, [.t 6])

theorem c_laws_FnExactSetStart : cmpS PT PF PA (Try.prog.funcs[4]?) = some (r_laws_FnExactSetStart.1, r_laws_FnExactSetStart.2, stripK k_laws_FnExactSetStart) := by kernel_rfl

set_option maxRecDepth 100000 in
theorem h_law_SetStart (g : TGram) (hlg : lGram g) (k : Int) (rest : List Int) (hlr : lL l0 rest) : CallsF Try.prog 4 [.agg (sGram g), aI k, .one (.ar false 0 1 (rest.map rI))] (aB true) := by
  refine Prun c_laws_FnExactSetStart (by simp [r_laws_FnExactSetStart]) (by simp) ?_
  unfold k_laws_FnExactSetStart r_laws_FnExactSetStart
  have hsz := h_szGram g 1048576 hlg (by omega) (by omega)
  obtain ⟨ps⟩ := g
  simp only [sGram] at hsz
  simp [sGram]
  by_cases g0 : (1048576 : Int) < rest.length
  · simp [g0]
  simp [g0]
  refine callG_F hsz (by simp) ?_
  by_cases g1 : (1048576 : Int) < (wGram ⟨ps⟩ : Int)
  · simp [lft_neg g1]
  have e1 : lft 1048576 (wGram ⟨ps⟩) = 1048576 - wGram ⟨ps⟩ := lft_pos (by omega)
  have n1 : ¬ (1048576 : Int) - wGram ⟨ps⟩ < 0 := by omega
  simp [e1, n1]
  have htg := h_toGram ⟨ps⟩ (by omega)
  have htr := h_toIntS rest (by rw [wL_w0]; omega)
  have hs := h_spec_SetStart ⟨ps⟩ k rest (by omega) hlg hlr (by omega)
  have hi := h_impl_SetStart ⟨ps⟩ k rest (by omega) hlg hlr
  have hSw := startG_w ⟨ps⟩ k rest
  have hsB := fun b => setB_eq b (startG ⟨ps⟩ k rest)
  rw [setR_eq] at hi
  generalize startG ⟨ps⟩ k rest = o at *
  generalize o.isSome = fl at *
  generalize o.getD [] = L at *
  have heL := h_eqConfS L (by omega)
  have heg := h_eqGram ⟨ps⟩ (by omega)
  have her := h_eqIntS rest (by rw [wL_w0]; omega)
  have hug := uGram_le ⟨ps⟩
  have hmg := h_markGram ⟨ps⟩ 1 (by omega) (by omega) (by omega)
  have hmr := h_markIntS 3 rest (1 + uGram.n ⟨ps⟩) (by omega) (by rw [mI_n]; omega)
  have hmL := h_markConfS 96 L 1 (by omega) (by rw [mConf_nL']; omega) (by omega)
  have hhL := h_heldConfS L 1 (by omega) (by rw [mConf_nL']; omega) (by omega)
  simp only [sGram, rGram] at htg hs hi heg
  simp only [uGram_n] at hug hmg hmr
  generalize mI.L.L.nL ps = ng at *
  have n2 : ¬ (1 + (ng : Int) < 0) := by omega
  have n3 : ¬ (1 + (ng : Int) + rest.length < 0) := by omega
  have n4 : ¬ (1 + (wL wConf L : Int) < 0) := by omega
  simp only [mI_n] at hmr
  simp only [mConf_nL'] at hmL hhL
  first | refine callG_F htg (by simp) ?_ | refine callOG_F htg (by simp) ?_ | refine gcal_F htg (by simp) ?_ | refine callRG_F htg rfl rfl (by simp) (by simp) ?_ | refine ⟨_, by simp, htg, ?_⟩
  try simp
  first | refine callG_F htr (by simp) ?_ | refine callOG_F htr (by simp) ?_ | refine gcal_F htr (by simp) ?_ | refine callRG_F htr rfl rfl (by simp) (by simp) ?_ | refine ⟨_, by simp, htr, ?_⟩
  try simp
  refine CallsA.mono hs ?_
  rintro r H ⟨rfl, b, rfl⟩
  obtain ⟨b', hb'⟩ := hsB b
  rw [hb']
  clear hsB hb' hs
  refine ⟨rfl, by simp, ?_⟩
  cases b'
  all_goals
    simp
    first | refine callG_F htg (by simp) ?_ | refine callOG_F htg (by simp) ?_ | refine gcal_F htg (by simp) ?_ | refine callRG_F htg rfl rfl (by simp) (by simp) ?_ | refine ⟨_, by simp, htg, ?_⟩
    try simp [n2, n3, n4]
    first | refine callG_F htr (by simp) ?_ | refine callOG_F htr (by simp) ?_ | refine gcal_F htr (by simp) ?_ | refine callRG_F htr rfl rfl (by simp) (by simp) ?_ | refine ⟨_, by simp, htr, ?_⟩
    try simp [n2, n3, n4]
    first | refine callG_F hi (by simp) ?_ | refine callOG_F hi (by simp) ?_ | refine gcal_F hi (by simp) ?_ | refine callRG_F hi rfl rfl (by simp) (by simp) ?_ | refine ⟨_, by simp, hi, ?_⟩
    try simp [n2, n3, n4]
    first | refine callG_F heL (by simp) ?_ | refine callOG_F heL (by simp) ?_ | refine gcal_F heL (by simp) ?_ | refine callRG_F heL rfl rfl (by simp) (by simp) ?_ | refine ⟨_, by simp, heL, ?_⟩
    try simp [n2, n3, n4]
    first | refine callG_F htg (by simp) ?_ | refine callOG_F htg (by simp) ?_ | refine gcal_F htg (by simp) ?_ | refine callRG_F htg rfl rfl (by simp) (by simp) ?_ | refine ⟨_, by simp, htg, ?_⟩
    try simp [n2, n3, n4]
    first | refine callG_F heg (by simp) ?_ | refine callOG_F heg (by simp) ?_ | refine gcal_F heg (by simp) ?_ | refine callRG_F heg rfl rfl (by simp) (by simp) ?_ | refine ⟨_, by simp, heg, ?_⟩
    try simp [n2, n3, n4]
    first | refine callG_F htr (by simp) ?_ | refine callOG_F htr (by simp) ?_ | refine gcal_F htr (by simp) ?_ | refine callRG_F htr rfl rfl (by simp) (by simp) ?_ | refine ⟨_, by simp, htr, ?_⟩
    try simp [n2, n3, n4]
    first | refine callG_F her (by simp) ?_ | refine callOG_F her (by simp) ?_ | refine gcal_F her (by simp) ?_ | refine callRG_F her rfl rfl (by simp) (by simp) ?_ | refine ⟨_, by simp, her, ?_⟩
    try simp [n2, n3, n4]
    first | refine callG_F hmg (by simp) ?_ | refine callOG_F hmg (by simp) ?_ | refine gcal_F hmg (by simp) ?_ | refine callRG_F hmg rfl rfl (by simp) (by simp) ?_ | refine ⟨_, by simp, hmg, ?_⟩
    try simp [n2, n3, n4]
    first | refine callG_F hmr (by simp) ?_ | refine callOG_F hmr (by simp) ?_ | refine gcal_F hmr (by simp) ?_ | refine callRG_F hmr rfl rfl (by simp) (by simp) ?_ | refine ⟨_, by simp, hmr, ?_⟩
    try simp [n2, n3, n4]
    first | refine callG_F heL (by simp) ?_ | refine callOG_F heL (by simp) ?_ | refine gcal_F heL (by simp) ?_ | refine callRG_F heL rfl rfl (by simp) (by simp) ?_ | refine ⟨_, by simp, heL, ?_⟩
    try simp [n2, n3, n4]
    first | refine callG_F hmL (by simp) ?_ | refine callOG_F hmL (by simp) ?_ | refine gcal_F hmL (by simp) ?_ | refine callRG_F hmL rfl rfl (by simp) (by simp) ?_ | refine ⟨_, by simp, hmL, ?_⟩
    try simp [n2, n3, n4]
    first | refine callG_F hhL (by simp) ?_ | refine callOG_F hhL (by simp) ?_ | refine gcal_F hhL (by simp) ?_ | refine callRG_F hhL rfl rfl (by simp) (by simp) ?_ | refine ⟨_, by simp, hhL, ?_⟩
    try simp [n2, n3, n4]
    first | refine callG_F htg (by simp) ?_ | refine callOG_F htg (by simp) ?_ | refine gcal_F htg (by simp) ?_ | refine callRG_F htg rfl rfl (by simp) (by simp) ?_ | refine ⟨_, by simp, htg, ?_⟩
    try simp [n2, n3, n4]
    first | refine callG_F htr (by simp) ?_ | refine callOG_F htr (by simp) ?_ | refine gcal_F htr (by simp) ?_ | refine callRG_F htr rfl rfl (by simp) (by simp) ?_ | refine ⟨_, by simp, htr, ?_⟩
    try simp [n2, n3, n4]
    first | refine callG_F hi (by simp) ?_ | refine callOG_F hi (by simp) ?_ | refine gcal_F hi (by simp) ?_ | refine callRG_F hi rfl rfl (by simp) (by simp) ?_ | refine ⟨_, by simp, hi, ?_⟩
    try simp [n2, n3, n4]
    first | refine callG_F heL (by simp) ?_ | refine callOG_F heL (by simp) ?_ | refine gcal_F heL (by simp) ?_ | refine callRG_F heL rfl rfl (by simp) (by simp) ?_ | refine ⟨_, by simp, heL, ?_⟩
    try simp [n2, n3, n4]
    first | refine callG_F hhL (by simp) ?_ | refine callOG_F hhL (by simp) ?_ | refine gcal_F hhL (by simp) ?_ | refine callRG_F hhL rfl rfl (by simp) (by simp) ?_ | refine ⟨_, by simp, hhL, ?_⟩
    try simp [n2, n3, n4]
end Go.Am
-- Gram_sh
namespace Go.Am
open Go.Proofs
set_option maxHeartbeats 4000000
set_option maxRecDepth 100000
attribute [-simp] BitVec.toNat_or BitVec.toNat_and BitVec.toNat_ofInt
attribute [-simp] rConf_len sConf_len shr_rConf shr_sConf shrs_rConf shrs_sConf noSh_rConf mConf_wr mConf_n cS_t cS_f row20_len row20_sc row20_view row20_store row20_aff row20_ref row20_noSh row20_shr row20_lend row20_take row20_drop rB_len setR_noSh rErr_len sErr_len shr_rErr shr_sErr shrs_rErr shrs_sErr noSh_rErr mErr_wr mErr_n rSlot_len sSlot_len shr_rSlot shr_sSlot shrs_rSlot shrs_sSlot noSh_rSlot mSlot_wr mSlot_n rNode_len sNode_len shr_rNode shr_sNode shrs_rNode shrs_sNode noSh_rNode mNode_wr mNode_n rTree_len sTree_len shr_rTree shr_sTree shrs_rTree shrs_sTree noSh_rTree mTree_wr mTree_n rRun_len sRun_len shr_rRun shr_sRun shrs_rRun shrs_sRun noSh_rRun mRun_wr mRun_n rJob_len sJob_len shr_rJob shr_sJob shrs_rJob shrs_sJob noSh_rJob mJob_wr mJob_n rOutcome_len sOutcome_len shr_rOutcome shr_sOutcome shrs_rOutcome shrs_sOutcome noSh_rOutcome mOutcome_wr mOutcome_n rTenant_len sTenant_len shr_rTenant shr_sTenant shrs_rTenant shrs_sTenant noSh_rTenant mTenant_wr mTenant_n uTenant_wr uTenant_n rLine_len sLine_len shr_rLine shr_sLine shrs_rLine shrs_sLine noSh_rLine mLine_wr mLine_n rStore_len sStore_len shr_rStore shr_sStore shrs_rStore shrs_sStore noSh_rStore mStore_wr mStore_n uStore_wr uStore_n noSh_sOutcome noSh_sSlot noSh_sErr noSh_tenant uGram_wr uGram_n mIS_n1 mIS_wr1 mISS_n1 mISS_wr1
def shGram : List Sh := [.l 1 [.l 1 [.l 1 [.i]]]]
theorem of_Gram (x : List C) (h : inShs shGram x) : ∃ a : TGram, x = sGram a ∧ lGram a := by
  simp only [shGram, inShs] at h
  obtain ⟨c0, r0, rfl, h0, rfl⟩ := h
  obtain ⟨n0, rfl, g0⟩ := of_sl of_ISS c0 h0
  refine ⟨⟨n0⟩, rfl, ?_⟩
  simp only [lGram]
  exact g0
end Go.Am
-- B_FnExactSetStart
namespace Go.Am
open Go.Proofs
set_option maxHeartbeats 4000000
set_option maxRecDepth 100000
attribute [-simp] BitVec.toNat_or BitVec.toNat_and BitVec.toNat_ofInt
open Go.ChangeShapes Go.WideShapes Go.ChangeAt Go.RowKit Go.Proofs.Ytfcbminodkjklaa
theorem own_FnExactSetStart : ownKnob Try.prog.godebug = none := by kernel_rfl
theorem laidOut_FnExactSetStart : laidOutB Try.prog = true := by kernel_rfl
set_option maxRecDepth 100000 in
theorem lifted_FnExactSetStart (os : Os) (started : os.Started) (H : Type) (enc : TypeId × Value → H) :
    ReturnsInHanded {} Try.checked os 4 .any (Rows.fnExactSetStartSpec.pre6 enc Try.prog Try.f4 Rows.fnExactSetStartRow.domain false) (Rows.fnExactSetStartSpec.post enc Try.prog Try.f4 false true false false) := by
  refine returnsInHanded_of_change (C := Try.checked) own_FnExactSetStart started (by kernel_rfl) Try.func4
    (ChangeSpec.witness6 (enc := enc) (C := Try.checked) false ⟨#[], #[.agg #[.slice none 0 0], .int .i64 0, .slice none 0 0], []⟩ 8 (by kernel_rfl) (by kernel_rfl) (by kernel_rfl) (by kernel_rfl)) ?_
  intro W base args ds gs before hval0 hW hcnd _
  have hval : ∀ (j : Nat) t v, Try.f4.params[j]? = some t → args[j]? = some v → Value.okWide Try.prog W .any base t v := hval0
  have hW' := hW
  obtain ⟨p, q, hA0, hV, rfl, hfz, hnd⟩ := hW
  have hA : DataW.TrodAll enc Try.prog W 0 (fun _ => true) true Try.f4.params.toList args.toList ds p := hA0
  rw [Try.params4] at hA hval
  obtain ⟨v0, v1, v2, d0, d1, d2, p0, p1, p2, rfl, rfl, rfl, h0, h1, h2⟩ := trodAll_three hA
  obtain ⟨rfl, rfl⟩ := trodVars_none hV
  have hV0 : ∀ (W' : World) (sp : Nat → Bool), DataW.TrodVars enc Try.checked.prog W' sp Rows.fnExactSetStartSpec.vars ([] : List (DataW H)) [] := fun _ _ => by first | rfl | trivial | exact ⟨rfl, rfl⟩ | exact ⟨_, rfl, rfl⟩
  have hk0 := h0
  have hs0 : shT Try.prog 12 33 = some shGram := by kernel_rfl
  obtain ⟨row0, hc0, hr0⟩ := arg_st (lc := fun _ => none) Try.underlying33 hs0 (hval 0 33 v0 rfl rfl) h0
  obtain ⟨x0, rfl, hl0⟩ := of_Gram row0 hc0
  obtain ⟨a1, rfl, rfl, rfl, wa1⟩ := open_int Try.underlying3 (hval 1 3 v1 rfl rfl) h1
  have hk2 := h2
  have hs2 : shT Try.prog 12 34 = some [.l 1 [.i]] := by kernel_rfl
  obtain ⟨c2, hc2, hr2⟩ := arg_sl (lc := fun _ => none) Try.underlying34 hs2 (hval 2 34 v2 rfl rfl) h2
  obtain ⟨x2, rfl, hl2⟩ := of_sl of_int c2 hc2
  clear hA0 hval0
  simp only [List.append_nil] at hW'
  refine (below_of (h_law_SetStart x0 hl0 a1 x2 hl2) (fun _ _ _ _ h => h.1) W [v0, .int .i64 a1, v2] (by simp [sGram, aI, aS, A.ref, C.ref, refCs]) ⟨_, _, fz, fz, rfl, (add_fz _).symm, hr0, ⟨_, _, fz, fz, rfl, (add_fz _).symm, ⟨rfl, rfl⟩, ⟨_, _, fz, fz, rfl, (add_fz _).symm, hr2, ⟨rfl, rfl⟩⟩⟩⟩ rfl).mono fun e W' ⟨he, hw⟩ => ?_
  subst he
  exact ⟨_, rfl, [d0, .lit (.int .i64 a1), d2], [], _, [], _, [], by simpa using hW', trodAll_mk1 (shut_bool Try.underlying4 true), trodAll_mk3 (Below.trod laidOut_FnExactSetStart (by kernel_rfl) (of_decide_eq_true (by kernel_rfl)) hk0 hw (fun x hx => by have := hW'.lt x (by simp [hx]); simpa using this)) (shut_int Try.underlying3 wa1) (Below.trod laidOut_FnExactSetStart (by kernel_rfl) (of_decide_eq_true (by kernel_rfl)) hk2 hw (fun x hx => by have := hW'.lt x (by simp [hx]); simpa using this)), hV0 _ _, hw.frame _, fun h => by cases h⟩
theorem holds_FnExactSetStart : Rows.FnExactSetStartSaid :=
  OpenClaim.holds_of_wide 4 Try.f4 rfl rfl rfl rfl rfl rfl rfl ⟨rfl, rfl, rfl, rfl, rfl⟩ rfl rfl rfl rfl rfl (by kernel_rfl) Try.func4 (by kernel_rfl)
    (of_decide_eq_true (by kernel_rfl)) (by unfold Func.isWrapper; first | (rw [if_pos (by decide +kernel)]; kernel_rfl) | (rw [if_neg (by decide +kernel)]; exact ⟨rfl, rfl⟩))
    (fun os started H enc _ => lifted_FnExactSetStart os started H enc)
#print axioms holds_FnExactSetStart
end Go.Am
namespace Go.Proofs.Ytfcbminodkjklaa
theorem fnExactSetStart_holds : Rows.FnExactSetStartSaid := Go.Am.holds_FnExactSetStart
end Go.Proofs.Ytfcbminodkjklaa
