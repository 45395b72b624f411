/- PROVED: whose turn it is: the same of the program and the reference -/
import Derived.Test.YthpgfalifhpcfaaGreatWhose2
import Derived.Test.YthpgfalifhpcfaaGreatRows
import Derived.ProofKit
set_option linter.unusedVariables false
set_option linter.unusedSimpArgs false
namespace Go.Am
open Go.Proofs
set_option maxHeartbeats 4000000
set_option maxRecDepth 100000
attribute [-simp] BitVec.toNat_or BitVec.toNat_and BitVec.toNat_ofInt
section -- Gram_eq
attribute [-simp] cS_t cS_f row20_len row20_sc row20_view row20_store row20_aff row20_ref row20_noSh row20_shr row20_lend row20_take row20_drop setR_noSh
-- laws.eqGramS
def k_laws_eqGramS : K := dc 0x104ec1041005401402e4f0043c5003043104e8104101a09a649658502e281585c10425d65411d61405410144c10424d24411d214044000a28020004500018338238d2cd10d30330000b1401010000371410041410031c0145039041040003104e8104100a08a2473042480c80401c60c600014100013a041040
def r_laws_eqGramS : Nat × List RV := (27, [.t 4])
theorem c_laws_eqGramS : codeIs PA 51 r_laws_eqGramS k_laws_eqGramS := by unfold codeIs; kernel_rfl

theorem h_eqGramS (xs : List TGram) (hx : wL wGram xs < 2 ^ 40) : CallsF Tryz.prog 51 [.one (.ar false 0 1 (xs.map sGram)), .one (.ar false 0 1 (xs.map sGram))] (aB true) := by
  refine Prun c_laws_eqGramS (by simp [r_laws_eqGramS]) (by simp) ?_
  (conv in k_laws_eqGramS => reduce); unfold r_laws_eqGramS
  have hlen := wL_len wGram xs
  simp
  refine awp_loop (fun n σ => ∃ i : Nat, i ≤ xs.length ∧ n = xs.length - i ∧ σ = ⟨[(0, .one (.ar false 0 1 (xs.map sGram))), (1, .one (.ar false 0 1 (xs.map sGram))), (5, aI i)], []⟩) (xs.length) ⟨0, by simp⟩ ?_
  rintro n σ ⟨i, hi, rfl, rfl⟩
  by_cases h : i < xs.length
  · have hw := wL_get wGram xs i h
    simp [h, sGram]
    refine ⟨_, by simp, h_eqGram xs[i] (by omega), ?_⟩
    simp
    refine ⟨xs.length - (i + 1), by omega, i + 1, by omega, rfl, ?_⟩
    rw [wrapI (by omega) (by omega)]
    simp
  · simp [h]
end
section -- Conf_eq1
attribute [-simp] cS_t cS_f row20_len row20_sc row20_view row20_store row20_aff row20_ref row20_noSh row20_shr row20_lend row20_take row20_drop setR_noSh
-- laws.eqConf
def k_laws_eqConf : K := dc 0x413b0410400c413a0410403c23ce24e34b0a214d3000423030462ca00108a081186040003104e810410090892063042070010870c018614004214200614100013a04304252b20200252b203040
def r_laws_eqConf : Nat × List RV := (16, [.t 4])
theorem c_laws_eqConf : codeIs PA 294 r_laws_eqConf k_laws_eqConf := by unfold codeIs; kernel_rfl

theorem h_eqConf (a : TConf) (ha : wConf a < 2 ^ 40) : CallsF Tryz.prog 294 [.agg (sConf a), .agg (sConf a)] (aB true) := by
  refine Prun c_laws_eqConf (by simp [r_laws_eqConf]) (by simp) ?_
  (conv in k_laws_eqConf => reduce); unfold r_laws_eqConf
  simp only [wConf] at ha
  simp [sConf]
  refine callG_F (h_eqIntS a.row (by omega)) (by simp) ?_
  simp
end
section -- Conf_eq
attribute [-simp] cS_t cS_f row20_len row20_sc row20_view row20_store row20_aff row20_ref row20_noSh row20_shr row20_lend row20_take row20_drop setR_noSh
-- laws.eqConfS
def k_laws_eqConfS : K := dc 0x104ec1041005401402e4f0043c5003043104e8104101a09a649658502fab1585c10825d65421d61405410144c10824d24421d214044000a28020004500018338238d2cd10d30330000b1401010000371410041410031c0145039041040003104e8104100a08a2473042480c80401c60c600014100013a041040
def r_laws_eqConfS : Nat × List RV := (27, [.t 4])
theorem c_laws_eqConfS : codeIs PA 251 r_laws_eqConfS k_laws_eqConfS := by unfold codeIs; kernel_rfl

theorem h_eqConfS (xs : List TConf) (hx : wL wConf xs < 2 ^ 40) : CallsF Tryz.prog 251 [.one (.ar false 0 2 (xs.map sConf)), .one (.ar false 0 2 (xs.map sConf))] (aB true) := by
  refine Prun c_laws_eqConfS (by simp [r_laws_eqConfS]) (by simp) ?_
  (conv in k_laws_eqConfS => reduce); unfold r_laws_eqConfS
  have hlen := wL_len wConf xs
  simp
  refine awp_loop (fun n σ => ∃ i : Nat, i ≤ xs.length ∧ n = xs.length - i ∧ σ = ⟨[(0, .one (.ar false 0 2 (xs.map sConf))), (1, .one (.ar false 0 2 (xs.map sConf))), (5, aI i)], []⟩) (xs.length) ⟨0, by simp⟩ ?_
  rintro n σ ⟨i, hi, rfl, rfl⟩
  by_cases h : i < xs.length
  · have hw := wL_get wConf xs i h
    simp [h, sConf]
    refine ⟨_, by simp, h_eqConf xs[i] (by omega), ?_⟩
    simp
    refine ⟨xs.length - (i + 1), by omega, i + 1, by omega, rfl, ?_⟩
    rw [wrapI (by omega) (by omega)]
    simp
  · simp [h]
end
section -- Line_eq1
attribute [-simp] cS_t cS_f row20_len row20_sc row20_view row20_store row20_aff row20_ref row20_noSh row20_shr row20_lend row20_take row20_drop setR_noSh
-- laws.eqLine
def k_laws_eqLine : K := dc 0x104ec1041003104e810410150955095134424eb153480042483086450001090082186040003104e8104100f08f38c30438d00108d0c118c2c00422c20461410000c413a041040282289249206093ac52070010870c018614004214200618100013a0430433aa2020033aa203040
def r_laws_eqLine : Nat × List RV := (22, [.t 4])
theorem c_laws_eqLine : codeIs PA 205 r_laws_eqLine k_laws_eqLine := by unfold codeIs; kernel_rfl

theorem h_eqLine (a : TLine) (ha : wLine a < 2 ^ 40) : CallsF Tryz.prog 205 [.agg (sLine a), .agg (sLine a)] (aB true) := by
  refine Prun c_laws_eqLine (by simp [r_laws_eqLine]) (by simp) ?_
  (conv in k_laws_eqLine => reduce); unfold r_laws_eqLine
  simp only [wLine] at ha
  simp [sLine]
  refine callG_F (h_eqConfS a.frm (by omega)) (by simp) ?_
  simp
  refine callG_F (h_eqConfS a.too (by omega)) (by simp) ?_
  simp
end
section -- Line_eq
attribute [-simp] cS_t cS_f row20_len row20_sc row20_view row20_store row20_aff row20_ref row20_noSh row20_shr row20_lend row20_take row20_drop setR_noSh
-- laws.eqLineS
def k_laws_eqLineS : K := dc 0x104ec1041005401402e4f0043c5003043104e8104101a09a64965850296a1585c10c25d65431d61405410144c10c24d24431d214044000a28020004500018338238d2cd10d30330000b1401010000371410041410031c0145039041040003104e8104100a08a2473042480c80401c60c600014100013a041040
def r_laws_eqLineS : Nat × List RV := (27, [.t 4])
theorem c_laws_eqLineS : codeIs PA 143 r_laws_eqLineS k_laws_eqLineS := by unfold codeIs; kernel_rfl

theorem h_eqLineS (xs : List TLine) (hx : wL wLine xs < 2 ^ 40) : CallsF Tryz.prog 143 [.one (.ar false 0 3 (xs.map sLine)), .one (.ar false 0 3 (xs.map sLine))] (aB true) := by
  refine Prun c_laws_eqLineS (by simp [r_laws_eqLineS]) (by simp) ?_
  (conv in k_laws_eqLineS => reduce); unfold r_laws_eqLineS
  have hlen := wL_len wLine xs
  simp
  refine awp_loop (fun n σ => ∃ i : Nat, i ≤ xs.length ∧ n = xs.length - i ∧ σ = ⟨[(0, .one (.ar false 0 3 (xs.map sLine))), (1, .one (.ar false 0 3 (xs.map sLine))), (5, aI i)], []⟩) (xs.length) ⟨0, by simp⟩ ?_
  rintro n σ ⟨i, hi, rfl, rfl⟩
  by_cases h : i < xs.length
  · have hw := wL_get wLine xs i h
    simp [h, sLine]
    refine ⟨_, by simp, h_eqLine xs[i] (by omega), ?_⟩
    simp
    refine ⟨xs.length - (i + 1), by omega, i + 1, by omega, rfl, ?_⟩
    rw [wrapI (by omega) (by omega)]
    simp
  · simp [h]
end
section -- Store_eq1
attribute [-simp] cS_t cS_f row20_len row20_sc row20_view row20_store row20_aff row20_ref row20_noSh row20_shr row20_lend row20_take row20_drop setR_noSh
-- laws.eqStore
def k_laws_eqStore : K := dc 0x104ec1041003104e8104100f08f38938d2c29e914d3000423030462ca00108a081186040003104e810410090892063042070010870c018614004214200614100013a0430423e92020023e9203040
def r_laws_eqStore : Nat × List RV := (16, [.t 4])
theorem c_laws_eqStore : codeIs PA 97 r_laws_eqStore k_laws_eqStore := by unfold codeIs; kernel_rfl

theorem h_eqStore (a : TStore) (ha : wStore a < 2 ^ 40) : CallsF Tryz.prog 97 [.agg (sStore a), .agg (sStore a)] (aB true) := by
  refine Prun c_laws_eqStore (by simp [r_laws_eqStore]) (by simp) ?_
  (conv in k_laws_eqStore => reduce); unfold r_laws_eqStore
  simp only [wStore] at ha
  simp [sStore]
  refine callG_F (h_eqLineS a.lines (by omega)) (by simp) ?_
  simp
end
section -- Store_eq
attribute [-simp] cS_t cS_f row20_len row20_sc row20_view row20_store row20_aff row20_ref row20_noSh row20_shr row20_lend row20_take row20_drop setR_noSh
-- laws.eqStoreS
def k_laws_eqStoreS : K := dc 0x104ec1041005401402e4f0043c5003043104e8104101a09a649658502e681585c10825d65421d61405410144c10824d24421d214044000a28020004500018338238d2cd10d30330000b1401010000371410041410031c0145039041040003104e8104100a08a2473042480c80401c60c600014100013a041040
def r_laws_eqStoreS : Nat × List RV := (27, [.t 4])
theorem c_laws_eqStoreS : codeIs PA 52 r_laws_eqStoreS k_laws_eqStoreS := by unfold codeIs; kernel_rfl

theorem h_eqStoreS (xs : List TStore) (hx : wL wStore xs < 2 ^ 40) : CallsF Tryz.prog 52 [.one (.ar false 0 2 (xs.map sStore)), .one (.ar false 0 2 (xs.map sStore))] (aB true) := by
  refine Prun c_laws_eqStoreS (by simp [r_laws_eqStoreS]) (by simp) ?_
  (conv in k_laws_eqStoreS => reduce); unfold r_laws_eqStoreS
  have hlen := wL_len wStore xs
  simp
  refine awp_loop (fun n σ => ∃ i : Nat, i ≤ xs.length ∧ n = xs.length - i ∧ σ = ⟨[(0, .one (.ar false 0 2 (xs.map sStore))), (1, .one (.ar false 0 2 (xs.map sStore))), (5, aI i)], []⟩) (xs.length) ⟨0, by simp⟩ ?_
  rintro n σ ⟨i, hi, rfl, rfl⟩
  by_cases h : i < xs.length
  · have hw := wL_get wStore xs i h
    simp [h, sStore]
    refine ⟨_, by simp, h_eqStore xs[i] (by omega), ?_⟩
    simp
    refine ⟨xs.length - (i + 1), by omega, i + 1, by omega, rfl, ?_⟩
    rw [wrapI (by omega) (by omega)]
    simp
  · simp [h]
end
section -- Err_eq1
attribute [-simp] cS_t cS_f row20_len row20_sc row20_view row20_store row20_aff row20_ref row20_noSh row20_shr row20_lend row20_take row20_drop setR_noSh
-- laws.eqErr
def k_laws_eqErr : K := dc 0x104ec1041003104e810410130934903044910010910c21903c00423c20861410000c413a04104038238d2cc10d3000423030462ca00108a081185040003104e810410090892063042070010870c018614004214200614100013a0430437ab2020037ab203040
def r_laws_eqErr : Nat × List RV := (20, [.t 4])
theorem c_laws_eqErr : codeIs PA 330 r_laws_eqErr k_laws_eqErr := by unfold codeIs; kernel_rfl

theorem h_eqErr (a : TErr) (ha : wErr a < 2 ^ 40) : CallsF Tryz.prog 330 [.agg (sErr a), .agg (sErr a)] (aB true) := by
  refine Prun c_laws_eqErr (by simp [r_laws_eqErr]) (by simp) ?_
  (conv in k_laws_eqErr => reduce); unfold r_laws_eqErr
  simp only [wErr] at ha
  simp [sErr]
end
section -- Err_eq
attribute [-simp] cS_t cS_f row20_len row20_sc row20_view row20_store row20_aff row20_ref row20_noSh row20_shr row20_lend row20_take row20_drop setR_noSh
-- laws.eqErrS
def k_laws_eqErrS : K := dc 0x104ec1041005401402e4f0043c5003043104e8104101a09a6496585028ac1585c10c25d65431d61405410144c10c24d24431d214044000a28020004500018338238d2cd10d30330000b1401010000371410041410031c0145039041040003104e8104100a08a2473042480c80401c60c600014100013a041040
def r_laws_eqErrS : Nat × List RV := (27, [.t 4])
theorem c_laws_eqErrS : codeIs PA 297 r_laws_eqErrS k_laws_eqErrS := by unfold codeIs; kernel_rfl

theorem h_eqErrS (xs : List TErr) (hx : wL wErr xs < 2 ^ 40) : CallsF Tryz.prog 297 [.one (.ar false 0 3 (xs.map sErr)), .one (.ar false 0 3 (xs.map sErr))] (aB true) := by
  refine Prun c_laws_eqErrS (by simp [r_laws_eqErrS]) (by simp) ?_
  (conv in k_laws_eqErrS => reduce); unfold r_laws_eqErrS
  have hlen := wL_len wErr xs
  simp
  refine awp_loop (fun n σ => ∃ i : Nat, i ≤ xs.length ∧ n = xs.length - i ∧ σ = ⟨[(0, .one (.ar false 0 3 (xs.map sErr))), (1, .one (.ar false 0 3 (xs.map sErr))), (5, aI i)], []⟩) (xs.length) ⟨0, by simp⟩ ?_
  rintro n σ ⟨i, hi, rfl, rfl⟩
  by_cases h : i < xs.length
  · have hw := wL_get wErr xs i h
    simp [h, sErr]
    refine ⟨_, by simp, h_eqErr xs[i] (by omega), ?_⟩
    simp
    refine ⟨xs.length - (i + 1), by omega, i + 1, by omega, rfl, ?_⟩
    rw [wrapI (by omega) (by omega)]
    simp
  · simp [h]
end
section -- Slot_eq1
attribute [-simp] cS_t cS_f row20_len row20_sc row20_view row20_store row20_aff row20_ref row20_noSh row20_shr row20_lend row20_take row20_drop setR_noSh
-- laws.eqSlot
def k_laws_eqSlot : K := dc 0x413b0410400c413a04104038238d2cc10d3000423030462ca00108a081185040003104e810410090892063042070010870c018614004214200614100013a043042ca9202002ca9203040
def r_laws_eqSlot : Nat × List RV := (15, [.t 4])
theorem c_laws_eqSlot : codeIs PA 328 r_laws_eqSlot k_laws_eqSlot := by unfold codeIs; kernel_rfl

theorem h_eqSlot (a : TSlot) (ha : wSlot a < 2 ^ 40) : CallsF Tryz.prog 328 [.agg (sSlot a), .agg (sSlot a)] (aB true) := by
  refine Prun c_laws_eqSlot (by simp [r_laws_eqSlot]) (by simp) ?_
  (conv in k_laws_eqSlot => reduce); unfold r_laws_eqSlot
  simp only [wSlot] at ha
  simp [sSlot]
end
section -- Slot_eq
attribute [-simp] cS_t cS_f row20_len row20_sc row20_view row20_store row20_aff row20_ref row20_noSh row20_shr row20_lend row20_take row20_drop setR_noSh
-- laws.eqSlotS
def k_laws_eqSlotS : K := dc 0x104ec1041005401402e4f0043c5003043104e8104101a09a64965850282c1585c10825d65421d61405410144c10824d24421d214044000a28020004500018338238d2cd10d30330000b1401010000371410041410031c0145039041040003104e8104100a08a2473042480c80401c60c600014100013a041040
def r_laws_eqSlotS : Nat × List RV := (27, [.t 4])
theorem c_laws_eqSlotS : codeIs PA 295 r_laws_eqSlotS k_laws_eqSlotS := by unfold codeIs; kernel_rfl

theorem h_eqSlotS (xs : List TSlot) (hx : wL wSlot xs < 2 ^ 40) : CallsF Tryz.prog 295 [.one (.ar false 0 2 (xs.map sSlot)), .one (.ar false 0 2 (xs.map sSlot))] (aB true) := by
  refine Prun c_laws_eqSlotS (by simp [r_laws_eqSlotS]) (by simp) ?_
  (conv in k_laws_eqSlotS => reduce); unfold r_laws_eqSlotS
  have hlen := wL_len wSlot xs
  simp
  refine awp_loop (fun n σ => ∃ i : Nat, i ≤ xs.length ∧ n = xs.length - i ∧ σ = ⟨[(0, .one (.ar false 0 2 (xs.map sSlot))), (1, .one (.ar false 0 2 (xs.map sSlot))), (5, aI i)], []⟩) (xs.length) ⟨0, by simp⟩ ?_
  rintro n σ ⟨i, hi, rfl, rfl⟩
  by_cases h : i < xs.length
  · have hw := wL_get wSlot xs i h
    simp [h, sSlot]
    refine ⟨_, by simp, h_eqSlot xs[i] (by omega), ?_⟩
    simp
    refine ⟨xs.length - (i + 1), by omega, i + 1, by omega, rfl, ?_⟩
    rw [wrapI (by omega) (by omega)]
    simp
  · simp [h]
end
section -- Node_eq1
attribute [-simp] cS_t cS_f row20_len row20_sc row20_view row20_store row20_aff row20_ref row20_noSh row20_shr row20_lend row20_take row20_drop setR_noSh
-- laws.eqNode
def k_laws_eqNode : K := dc 0x104ec1041003104e8104101e09e74975c68288571b00109b0c419a6400426421061810000c413a04104060261754c1175800425830c6554001094083185040003104e810410130934903044910010910c21903c00423c20861410000c413a04104038238d2cc10d3000423030462ca00108a081185040003104e810410090892063042070010870c018614004214200614100013a04304582b20200582b203040
def r_laws_eqNode : Nat × List RV := (31, [.t 4])
theorem c_laws_eqNode : codeIs PA 348 r_laws_eqNode k_laws_eqNode := by unfold codeIs; kernel_rfl

theorem h_eqNode (a : TNode) (ha : wNode a < 2 ^ 40) : CallsF Tryz.prog 348 [.agg (sNode a), .agg (sNode a)] (aB true) := by
  refine Prun c_laws_eqNode (by simp [r_laws_eqNode]) (by simp) ?_
  (conv in k_laws_eqNode => reduce); unfold r_laws_eqNode
  simp only [wNode] at ha
  simp [sNode]
  refine callG_F (h_eqIntS a.kids (by omega)) (by simp) ?_
  simp
end
section -- Node_eq
attribute [-simp] cS_t cS_f row20_len row20_sc row20_view row20_store row20_aff row20_ref row20_noSh row20_shr row20_lend row20_take row20_drop setR_noSh
-- laws.eqNodeS
def k_laws_eqNodeS : K := dc 0x104ec1041005401402e4f0043c5003043104e8104101a09a649658502d2c1585c11425d65451d61405410144c11424d24451d214044000a28020004500018338238d2cd10d30330000b1401010000371410041410031c0145039041040003104e8104100a08a2473042480c80401c60c600014100013a041040
def r_laws_eqNodeS : Nat × List RV := (27, [.t 4])
theorem c_laws_eqNodeS : codeIs PA 329 r_laws_eqNodeS k_laws_eqNodeS := by unfold codeIs; kernel_rfl

theorem h_eqNodeS (xs : List TNode) (hx : wL wNode xs < 2 ^ 40) : CallsF Tryz.prog 329 [.one (.ar false 0 5 (xs.map sNode)), .one (.ar false 0 5 (xs.map sNode))] (aB true) := by
  refine Prun c_laws_eqNodeS (by simp [r_laws_eqNodeS]) (by simp) ?_
  (conv in k_laws_eqNodeS => reduce); unfold r_laws_eqNodeS
  have hlen := wL_len wNode xs
  simp
  refine awp_loop (fun n σ => ∃ i : Nat, i ≤ xs.length ∧ n = xs.length - i ∧ σ = ⟨[(0, .one (.ar false 0 5 (xs.map sNode))), (1, .one (.ar false 0 5 (xs.map sNode))), (5, aI i)], []⟩) (xs.length) ⟨0, by simp⟩ ?_
  rintro n σ ⟨i, hi, rfl, rfl⟩
  by_cases h : i < xs.length
  · have hw := wL_get wNode xs i h
    simp [h, sNode]
    refine ⟨_, by simp, h_eqNode xs[i] (by omega), ?_⟩
    simp
    refine ⟨xs.length - (i + 1), by omega, i + 1, by omega, rfl, ?_⟩
    rw [wrapI (by omega) (by omega)]
    simp
  · simp [h]
end
section -- Tree_eq1
attribute [-simp] cS_t cS_f row20_len row20_sc row20_view row20_store row20_aff row20_ref row20_noSh row20_shr row20_lend row20_take row20_drop setR_noSh
-- laws.eqTree
def k_laws_eqTree : K := dc 0x413b0410400c413a0410402822892492060a1b052070010870c018614004214200618100013a043041ee8202001ee8203040
def r_laws_eqTree : Nat × List RV := (11, [.t 4])
theorem c_laws_eqTree : codeIs PA 296 r_laws_eqTree k_laws_eqTree := by unfold codeIs; kernel_rfl

theorem h_eqTree (a : TTree) (ha : wTree a < 2 ^ 40) : CallsF Tryz.prog 296 [.agg (sTree a), .agg (sTree a)] (aB true) := by
  refine Prun c_laws_eqTree (by simp [r_laws_eqTree]) (by simp) ?_
  (conv in k_laws_eqTree => reduce); unfold r_laws_eqTree
  simp only [wTree] at ha
  simp [sTree]
  refine callG_F (h_eqNodeS a.nodes (by omega)) (by simp) ?_
  simp
end
section -- Run_eq1
attribute [-simp] cS_t cS_f row20_len row20_sc row20_view row20_store row20_aff row20_ref row20_noSh row20_shr row20_lend row20_take row20_drop setR_noSh
-- laws.eqRun
def k_laws_eqRun : K := dc 0x104ec1041003104e8104102a082a29241a2898206c140a270010a70c61a69400429421861810000c413a0410409029232638a0080b058a10410a10c51a07c10427c21461810000c413a04104078279d25d71a0bfac571b00109b0c419a6400426421061810000c413a04104060261754c1175800425830c6554001094083185040003104e810410130934903044910010910c21903c00423c20861410000c413a04104038238d2cc10d3000423030462ca00108a081185040003104e810410090892063042070010870c018614004214200614100013a043047fa8202007fa8203040
def r_laws_eqRun : Nat × List RV := (43, [.t 4])
theorem c_laws_eqRun : codeIs PA 252 r_laws_eqRun k_laws_eqRun := by unfold codeIs; kernel_rfl

theorem h_eqRun (a : TRun) (ha : wRun a < 2 ^ 40) : CallsF Tryz.prog 252 [.agg (sRun a), .agg (sRun a)] (aB true) := by
  refine Prun c_laws_eqRun (by simp [r_laws_eqRun]) (by simp) ?_
  (conv in k_laws_eqRun => reduce); unfold r_laws_eqRun
  simp only [wRun] at ha
  simp [sRun]
  refine callG_F (h_eqSlotS a.slots (by omega)) (by simp) ?_
  simp
  refine callG_F (h_eqTree a.tree (by omega)) (by simp) ?_
  simp
  refine callG_F (h_eqErrS a.errs (by omega)) (by simp) ?_
  simp
end
section -- Job_eq1
attribute [-simp] cS_t cS_f row20_len row20_sc row20_view row20_store row20_aff row20_ref row20_noSh row20_shr row20_lend row20_take row20_drop setR_noSh
-- laws.eqJob
def k_laws_eqJob : K := dc 0x104ec1041003104e8104101a09a64965858252b1585c11c25c30c6595047095083186040003104e810410140944c94d24028854910010910c21903c00423c20861810000c413a04104038238d2cc10d3000423030462ca00108a081185040003104e810410090892063042070010870c018614004214200614100013a04304a06920200a069203040
def r_laws_eqJob : Nat × List RV := (27, [.t 4])
theorem c_laws_eqJob : codeIs PA 206 r_laws_eqJob k_laws_eqJob := by unfold codeIs; kernel_rfl

theorem h_eqJob (a : TJob) (ha : wJob a < 2 ^ 40) : CallsF Tryz.prog 206 [.agg (sJob a), .agg (sJob a)] (aB true) := by
  refine Prun c_laws_eqJob (by simp [r_laws_eqJob]) (by simp) ?_
  (conv in k_laws_eqJob => reduce); unfold r_laws_eqJob
  simp only [wJob] at ha
  simp [sJob]
  refine callG_F (h_eqIntS a.input (by omega)) (by simp) ?_
  simp
  refine callG_F (h_eqRun a.run (by omega)) (by simp) ?_
  simp
end
section -- Job_eq
attribute [-simp] cS_t cS_f row20_len row20_sc row20_view row20_store row20_aff row20_ref row20_noSh row20_shr row20_lend row20_take row20_drop setR_noSh
-- laws.eqJobS
def k_laws_eqJobS : K := dc 0x104ec1041005401402e4f0043c5003043104e8104101a09a6496585029aa1585c12825d654a1d61405410144c12824d244a1d214044000a28020004500018338238d2cd10d30330000b1401010000371410041410031c0145039041040003104e8104100a08a2473042480c80401c60c600014100013a041040
def r_laws_eqJobS : Nat × List RV := (27, [.t 4])
theorem c_laws_eqJobS : codeIs PA 144 r_laws_eqJobS k_laws_eqJobS := by unfold codeIs; kernel_rfl

theorem h_eqJobS (xs : List TJob) (hx : wL wJob xs < 2 ^ 40) : CallsF Tryz.prog 144 [.one (.ar false 0 10 (xs.map sJob)), .one (.ar false 0 10 (xs.map sJob))] (aB true) := by
  refine Prun c_laws_eqJobS (by simp [r_laws_eqJobS]) (by simp) ?_
  (conv in k_laws_eqJobS => reduce); unfold r_laws_eqJobS
  have hlen := wL_len wJob xs
  simp
  refine awp_loop (fun n σ => ∃ i : Nat, i ≤ xs.length ∧ n = xs.length - i ∧ σ = ⟨[(0, .one (.ar false 0 10 (xs.map sJob))), (1, .one (.ar false 0 10 (xs.map sJob))), (5, aI i)], []⟩) (xs.length) ⟨0, by simp⟩ ?_
  rintro n σ ⟨i, hi, rfl, rfl⟩
  by_cases h : i < xs.length
  · have hw := wL_get wJob xs i h
    simp [h, sJob]
    refine ⟨_, by simp, h_eqJob xs[i] (by omega), ?_⟩
    simp
    refine ⟨xs.length - (i + 1), by omega, i + 1, by omega, rfl, ?_⟩
    rw [wrapI (by omega) (by omega)]
    simp
  · simp [h]
end
section -- Outcome_eq1
attribute [-simp] cS_t cS_f row20_len row20_sc row20_view row20_store row20_aff row20_ref row20_noSh row20_shr row20_lend row20_take row20_drop setR_noSh
-- laws.eqOutcome
def k_laws_eqOutcome : K := dc 0x104ec1041003104e810410130934903044910010910c21903c00423c20861410000c413a04104038238d2cc10d3000423030462ca00108a081185040003104e810410090892063042070010870c018614004214200614100013a0430437480800dd203040
def r_laws_eqOutcome : Nat × List RV := (20, [.t 4])
theorem c_laws_eqOutcome : codeIs PA 16 r_laws_eqOutcome k_laws_eqOutcome := by unfold codeIs; kernel_rfl

theorem h_eqOutcome (a : TOutcome) (ha : wOutcome a < 2 ^ 40) : CallsF Tryz.prog 16 [.agg (sOutcome a), .agg (sOutcome a)] (aB true) := by
  refine Prun c_laws_eqOutcome (by simp [r_laws_eqOutcome]) (by simp) ?_
  (conv in k_laws_eqOutcome => reduce); unfold r_laws_eqOutcome
  simp only [wOutcome] at ha
  simp [sOutcome]
end
section -- Outcome_eq
attribute [-simp] cS_t cS_f row20_len row20_sc row20_view row20_store row20_aff row20_ref row20_noSh row20_shr row20_lend row20_take row20_drop setR_noSh
-- laws.eqOutcomeS
def k_laws_eqOutcomeS : K := dc 0x413b0410401500500b93c010f1400c10c413a0410406826992596140901585c10c25d65431d61405410144c10c24d24431d214044000a28020004500018338238d2cd10d30330000b1401010000371410041410031c0145039041040003104e8104100a08a2473042480c80401c60c600014100013a041040
def r_laws_eqOutcomeS : Nat × List RV := (27, [.t 4])
theorem c_laws_eqOutcomeS : codeIs PA 28 r_laws_eqOutcomeS k_laws_eqOutcomeS := by unfold codeIs; kernel_rfl

theorem h_eqOutcomeS (xs : List TOutcome) (hx : wL wOutcome xs < 2 ^ 40) : CallsF Tryz.prog 28 [.one (.ar false 0 3 (xs.map sOutcome)), .one (.ar false 0 3 (xs.map sOutcome))] (aB true) := by
  refine Prun c_laws_eqOutcomeS (by simp [r_laws_eqOutcomeS]) (by simp) ?_
  (conv in k_laws_eqOutcomeS => reduce); unfold r_laws_eqOutcomeS
  have hlen := wL_len wOutcome xs
  simp
  refine awp_loop (fun n σ => ∃ i : Nat, i ≤ xs.length ∧ n = xs.length - i ∧ σ = ⟨[(0, .one (.ar false 0 3 (xs.map sOutcome))), (1, .one (.ar false 0 3 (xs.map sOutcome))), (5, aI i)], []⟩) (xs.length) ⟨0, by simp⟩ ?_
  rintro n σ ⟨i, hi, rfl, rfl⟩
  by_cases h : i < xs.length
  · have hw := wL_get wOutcome xs i h
    simp [h, sOutcome]
    refine ⟨_, by simp, h_eqOutcome xs[i] (by omega), ?_⟩
    simp
    refine ⟨xs.length - (i + 1), by omega, i + 1, by omega, rfl, ?_⟩
    rw [wrapI (by omega) (by omega)]
    simp
  · simp [h]
end
section -- Tenant_eq1
attribute [-simp] cS_t cS_f row20_len row20_sc row20_view row20_store row20_aff row20_ref row20_noSh row20_shr row20_lend row20_take row20_drop setR_noSh
-- laws.eqTenant
def k_laws_eqTenant : K := dc 0x104ec1041003104e81041000e02428dc93e8db409c14ea3500108da03246328cc00422e8089186040003104e8104103208aa31249a30b82a29148a2f001087a032061a8b40042168088186040003104e8104102c084a2ba4c103a2a001082a031c6068a00042028087185040003104e810410270a79a43049a50010a50c61a48c00428c21861410000c413a0410408828a17cc1218000428031467de00109e085185040003104e8104101d09d71a30471b00109b0c419a6400426421061410000c413a04104060261754c1175800425830c6554001094083185040003104e810410130934903044910010910c21903c00423c20861410000c413a04104038238d2cc10d3000423030462ca00108a081185040003104e810410090892063042070010870c018614004214200614100013a04304a7e820200a7e8203040
def r_laws_eqTenant : Nat × List RV := (57, [.t 4])
theorem c_laws_eqTenant : codeIs PA 98 r_laws_eqTenant k_laws_eqTenant := by unfold codeIs; kernel_rfl

theorem h_eqTenant (a : TTenant) (ha : wTenant a < 2 ^ 40) : CallsF Tryz.prog 98 [.agg (sTenant a), .agg (sTenant a)] (aB true) := by
  refine Prun c_laws_eqTenant (by simp [r_laws_eqTenant]) (by simp) ?_
  (conv in k_laws_eqTenant => reduce); unfold r_laws_eqTenant
  simp only [wTenant] at ha
  simp [sTenant]
  refine callG_F (h_eqJobS a.queue (by omega)) (by simp) ?_
  simp
  refine callG_F (h_eqOutcomeS a.out (by omega)) (by simp) ?_
  simp
end
section -- Tenant_eq
attribute [-simp] cS_t cS_f row20_len row20_sc row20_view row20_store row20_aff row20_ref row20_noSh row20_shr row20_lend row20_take row20_drop setR_noSh
-- laws.eqTenantS
def k_laws_eqTenantS : K := dc 0x104ec1041005401402e4f0043c5003043104e8104101a09a649658502ea81585c12825d654a1d61405410144c12824d244a1d214044000a28020004500018338238d2cd10d30330000b1401010000371410041410031c0145039041040003104e8104100a08a2473042480c80401c60c600014100013a041040
def r_laws_eqTenantS : Nat × List RV := (27, [.t 4])
theorem c_laws_eqTenantS : codeIs PA 53 r_laws_eqTenantS k_laws_eqTenantS := by unfold codeIs; kernel_rfl

theorem h_eqTenantS (xs : List TTenant) (hx : wL wTenant xs < 2 ^ 40) : CallsF Tryz.prog 53 [.one (.ar false 0 10 (xs.map sTenant)), .one (.ar false 0 10 (xs.map sTenant))] (aB true) := by
  refine Prun c_laws_eqTenantS (by simp [r_laws_eqTenantS]) (by simp) ?_
  (conv in k_laws_eqTenantS => reduce); unfold r_laws_eqTenantS
  have hlen := wL_len wTenant xs
  simp
  refine awp_loop (fun n σ => ∃ i : Nat, i ≤ xs.length ∧ n = xs.length - i ∧ σ = ⟨[(0, .one (.ar false 0 10 (xs.map sTenant))), (1, .one (.ar false 0 10 (xs.map sTenant))), (5, aI i)], []⟩) (xs.length) ⟨0, by simp⟩ ?_
  rintro n σ ⟨i, hi, rfl, rfl⟩
  by_cases h : i < xs.length
  · have hw := wL_get wTenant xs i h
    simp [h, sTenant]
    refine ⟨_, by simp, h_eqTenant xs[i] (by omega), ?_⟩
    simp
    refine ⟨xs.length - (i + 1), by omega, i + 1, by omega, rfl, ?_⟩
    rw [wrapI (by omega) (by omega)]
    simp
  · simp [h]
end
section -- House_eq1
attribute [-simp] cS_t cS_f row20_len row20_sc row20_view row20_store row20_aff row20_ref row20_noSh row20_shr row20_lend row20_take row20_drop setR_noSh
-- laws.eqHouse
def k_laws_eqHouse : K := dc 0x413b0410400c413a04104080281f25f79c08da0579d00109d0c419c6c00426c21061810000c413a04104068269925961608ca056170010970c31965400425420c61810000c413a04104050251325349008ba054910010910c21903c00423c20861810000c413a04104038238d2cc10d3000423030462ca00108a081185040003104e810410090892063042070010870c018614004214200614100013a043045908080164203040
def r_laws_eqHouse : Nat × List RV := (33, [.t 4])
theorem c_laws_eqHouse : codeIs PA 17 r_laws_eqHouse k_laws_eqHouse := by unfold codeIs; kernel_rfl

theorem h_eqHouse (a : THouse) (ha : wHouse a < 2 ^ 40) : CallsF Tryz.prog 17 [.agg (sHouse a), .agg (sHouse a)] (aB true) := by
  refine Prun c_laws_eqHouse (by simp [r_laws_eqHouse]) (by simp) ?_
  (conv in k_laws_eqHouse => reduce); unfold r_laws_eqHouse
  simp only [wHouse] at ha
  simp [sHouse]
  refine callG_F (h_eqGramS a.grams (by omega)) (by simp) ?_
  simp
  refine callG_F (h_eqStoreS a.stores (by omega)) (by simp) ?_
  simp
  refine callG_F (h_eqTenantS a.tenants (by omega)) (by simp) ?_
  simp
end
section -- intm
attribute [-simp] cS_t cS_f row20_len row20_sc row20_view row20_store row20_aff row20_ref row20_noSh row20_shr row20_lend row20_take row20_drop setR_noSh
-- laws.szIntS
def k_laws_szIntS : K := dc 0x410b04b040081003104079041040282280e49344241002040001201207141107183180005040141004039041040
def r_laws_szIntS : Nat × List RV := (12, [.t 4])
theorem c_laws_szIntS : codeIs PA 239 r_laws_szIntS k_laws_szIntS := by unfold codeIs; kernel_rfl

theorem h_szIntS (xs : List Int) (left : Int) (h : lL l0 xs) (h2 : 0 ≤ left) (h3 : left < 2 ^ 40) : CallsF Tryz.prog 239 [.one (.ar false 0 1 (xs.map rI)), aI left] (aI (lft left (wL w0 xs))) := by
  refine Prun c_laws_szIntS (by simp [r_laws_szIntS]) (by simp) ?_
  (conv in k_laws_szIntS => reduce); unfold r_laws_szIntS
  have h := h.1
  rw [wL_w0, lft]
  have hw : IntKind.i64.wrap (left - xs.length) = left - xs.length := wrapI (by omega) (by omega)
  by_cases h : left - xs.length < 0
  · simp [hw, h]
  · simp [hw, h]
end
section -- IntSS_sz
attribute [-simp] cS_t cS_f row20_len row20_sc row20_view row20_store row20_aff row20_ref row20_noSh row20_shr row20_lend row20_take row20_drop setR_noSh
-- laws.szIntSS
def k_laws_szIntSS : K := dc 0x411a05a040081005441442e50004405003043104079041040642640e58344601002040057057595087ac55810155000425134811d31404800070400450001833c23ce30d10e34334000c1401010000371410041410031c01450390410400031040790410402c22c0e4a3442810020400012412481811081c31c0006040141004039041040
def r_laws_szIntSS : Nat × List RV := (27, [.t 4])
theorem c_laws_szIntSS : codeIs PA 191 r_laws_szIntSS k_laws_szIntSS := by unfold codeIs; kernel_rfl

theorem h_szIntSS (xs : List (List Int)) (left : Int) (hl : lL (lL l0) xs) (h2 : 0 ≤ left) (h3 : left < 2 ^ 40) : CallsF Tryz.prog 191 [.one (.ar false 0 1 (xs.map sIS)), aI left] (aI (lft left (wL (wL w0) xs))) := by
  refine Prun c_laws_szIntSS (by simp [r_laws_szIntSS]) (by simp) ?_
  (conv in k_laws_szIntSS => reduce); unfold r_laws_szIntSS
  have hlen := hl.1
  have hlw := wL_len (wL w0) xs
  have w1 : IntKind.i64.wrap (left - xs.length) = left - xs.length := wrapI (by omega) (by omega)
  by_cases h1 : left - (xs.length : Int) < 0
  · rw [lft_neg (by omega)]
    simp [w1, h1]
  simp [w1, h1]
  refine awp_loop (fun n σ => ∃ i : Nat, i ≤ xs.length ∧ n = xs.length - i ∧ (wL (wL w0) (xs.take i) : Int) - i ≤ left - xs.length ∧ σ = ⟨[(0, .one (.ar false 0 1 (xs.map sIS))), (1, aI (left - xs.length - ((wL (wL w0) (xs.take i) : Int) - i))), (5, aI i)], []⟩) (xs.length) ⟨0, by simp [wL]; omega⟩ ?_
  rintro n σ ⟨i, hi, rfl, hle, rfl⟩
  have hge := wL_len (wL w0) (xs.take i)
  rw [List.length_take, Nat.min_eq_left hi] at hge
  by_cases h : i < xs.length
  · have hst := wL_take (wL w0) h
    have hle2 := wL_take_le (wL w0) xs (i + 1)
    have hlen2 := wL_len (wL w0) (xs.drop (i + 1))
    have happ := wL_append (wL w0) (xs.take (i + 1)) (xs.drop (i + 1))
    rw [List.take_append_drop] at happ
    rw [List.length_drop] at hlen2
    simp [h, sIS]
    refine callG_F (h_szIntS xs[i] _ (hl.2 i h) (by omega) (by omega)) (by simp) ?_
    generalize hv : left - (xs.length : Int) - ((wL (wL w0) (xs.take i) : Int) - i) = v at *
    by_cases h4 : v < ((wL w0) xs[i] : Int)
    · simp only [lft_neg h4]
      rw [lft_neg (by omega)]
      simp
    · have e : lft v ((wL w0) xs[i]) = v - (wL w0) xs[i] := lft_pos (by omega)
      have n1 : ¬ v - ((wL w0) xs[i] : Int) < 0 := by omega
      simp [e, n1]
      refine ⟨xs.length - (i + 1), by omega, i + 1, by omega, rfl, by omega, ?_⟩
      rw [wrapI (by omega) (by omega)]
      simp; omega
  · have : i = xs.length := by omega
    subst this
    rw [List.take_length] at hle
    rw [lft_pos (by omega)]
    simp
    omega
end
section -- IntSSS_sz
attribute [-simp] cS_t cS_f row20_len row20_sc row20_view row20_store row20_aff row20_ref row20_noSh row20_shr row20_lend row20_take row20_drop setR_noSh
-- laws.szIntSSS
def k_laws_szIntSSS : K := dc 0x411a05a040081005441442e50004405003043104079041040642640e58344601002040057057595097a855810155000425134811d31404800070400450001833c23ce30d10e34334000c1401010000371410041410031c01450390410400031040790410402c22c0e4a3442810020400012412481811081c31c0006040141004039041040
def r_laws_szIntSSS : Nat × List RV := (27, [.t 4])
theorem c_laws_szIntSSS : codeIs PA 130 r_laws_szIntSSS k_laws_szIntSSS := by unfold codeIs; kernel_rfl

theorem h_szIntSSS (xs : List (List (List Int))) (left : Int) (hl : lL (lL (lL l0)) xs) (h2 : 0 ≤ left) (h3 : left < 2 ^ 40) : CallsF Tryz.prog 130 [.one (.ar false 0 1 (xs.map sISS)), aI left] (aI (lft left (wL (wL (wL w0)) xs))) := by
  refine Prun c_laws_szIntSSS (by simp [r_laws_szIntSSS]) (by simp) ?_
  (conv in k_laws_szIntSSS => reduce); unfold r_laws_szIntSSS
  have hlen := hl.1
  have hlw := wL_len (wL (wL w0)) xs
  have w1 : IntKind.i64.wrap (left - xs.length) = left - xs.length := wrapI (by omega) (by omega)
  by_cases h1 : left - (xs.length : Int) < 0
  · rw [lft_neg (by omega)]
    simp [w1, h1]
  simp [w1, h1]
  refine awp_loop (fun n σ => ∃ i : Nat, i ≤ xs.length ∧ n = xs.length - i ∧ (wL (wL (wL w0)) (xs.take i) : Int) - i ≤ left - xs.length ∧ σ = ⟨[(0, .one (.ar false 0 1 (xs.map sISS))), (1, aI (left - xs.length - ((wL (wL (wL w0)) (xs.take i) : Int) - i))), (5, aI i)], []⟩) (xs.length) ⟨0, by simp [wL]; omega⟩ ?_
  rintro n σ ⟨i, hi, rfl, hle, rfl⟩
  have hge := wL_len (wL (wL w0)) (xs.take i)
  rw [List.length_take, Nat.min_eq_left hi] at hge
  by_cases h : i < xs.length
  · have hst := wL_take (wL (wL w0)) h
    have hle2 := wL_take_le (wL (wL w0)) xs (i + 1)
    have hlen2 := wL_len (wL (wL w0)) (xs.drop (i + 1))
    have happ := wL_append (wL (wL w0)) (xs.take (i + 1)) (xs.drop (i + 1))
    rw [List.take_append_drop] at happ
    rw [List.length_drop] at hlen2
    simp [h, sISS]
    refine callG_F (h_szIntSS xs[i] _ (hl.2 i h) (by omega) (by omega)) (by simp) ?_
    generalize hv : left - (xs.length : Int) - ((wL (wL (wL w0)) (xs.take i) : Int) - i) = v at *
    by_cases h4 : v < ((wL (wL w0)) xs[i] : Int)
    · simp only [lft_neg h4]
      rw [lft_neg (by omega)]
      simp
    · have e : lft v ((wL (wL w0)) xs[i]) = v - (wL (wL w0)) xs[i] := lft_pos (by omega)
      have n1 : ¬ v - ((wL (wL w0)) xs[i] : Int) < 0 := by omega
      simp [e, n1]
      refine ⟨xs.length - (i + 1), by omega, i + 1, by omega, rfl, by omega, ?_⟩
      rw [wrapI (by omega) (by omega)]
      simp; omega
  · have : i = xs.length := by omega
    subst this
    rw [List.take_length] at hle
    rw [lft_pos (by omega)]
    simp
    omega
end
section -- Gram_sz1
attribute [-simp] cS_t cS_f row20_len row20_sc row20_view row20_store row20_aff row20_ref row20_noSh row20_shr row20_lend row20_take row20_drop setR_noSh
-- laws.szGram
def k_laws_szGram : K := dc 0x1042c12c10020400c4101e4104100a08a03924d1090400810000480481c609aa451c1006140042142006141004039042001529202040
def r_laws_szGram : Nat × List RV := (12, [.t 4])
theorem c_laws_szGram : codeIs PA 87 r_laws_szGram k_laws_szGram := by unfold codeIs; kernel_rfl

theorem h_szGram (a : TGram) (left : Int) (h : lGram a) (h2 : 0 ≤ left) (h3 : left < 2 ^ 40) : CallsF Tryz.prog 87 [.agg (sGram a), aI left] (aI (lft left (wGram a))) := by
  refine Prun c_laws_szGram (by simp [r_laws_szGram]) (by simp) ?_
  (conv in k_laws_szGram => reduce); unfold r_laws_szGram
  simp only [lGram] at h
  simp only [wGram]
  have hl0 := h
  simp [sGram]
  refine callG_F (h_szIntSSS a.parts (left) hl0 (by omega) (by omega)) (by simp) ?_
  by_cases g0 : left < (wL (wL (wL w0)) a.parts : Int)
  case pos => simp only [lft_neg g0]; simp; try rw [lft_neg (by omega)]
  simp only [lft_pos (show (wL (wL (wL w0)) a.parts : Int) ≤ left by omega)]
  have n0 : ¬ left - (wL (wL (wL w0)) a.parts : Int) < 0 := by omega
  simp [n0]
  try rw [lft_pos (by omega)]
  try omega
end
section -- Gram_sz
attribute [-simp] cS_t cS_f row20_len row20_sc row20_view row20_store row20_aff row20_ref row20_noSh row20_shr row20_lend row20_take row20_drop setR_noSh
-- laws.szGramS
def k_laws_szGramS : K := dc 0x411a05a040081005441442e50004405003043104079041040642640e583446010020400570575950afa055810155010425134811d31404800070400450001833c23ce30d10e34334000c1401010000371410041410031c01450390410400031040790410402c22c0e4a3442810020400012412481811081c31c0006040141004039041040
def r_laws_szGramS : Nat × List RV := (27, [.t 4])
theorem c_laws_szGramS : codeIs PA 42 r_laws_szGramS k_laws_szGramS := by unfold codeIs; kernel_rfl

theorem h_szGramS (xs : List TGram) (left : Int) (hl : lL lGram xs) (h2 : 0 ≤ left) (h3 : left < 2 ^ 40) : CallsF Tryz.prog 42 [.one (.ar false 0 1 (xs.map sGram)), aI left] (aI (lft left (wL wGram xs))) := by
  refine Prun c_laws_szGramS (by simp [r_laws_szGramS]) (by simp) ?_
  (conv in k_laws_szGramS => reduce); unfold r_laws_szGramS
  have hlen := hl.1
  have hlw := wL_len wGram xs
  have w1 : IntKind.i64.wrap (left - xs.length) = left - xs.length := wrapI (by omega) (by omega)
  by_cases h1 : left - (xs.length : Int) < 0
  · rw [lft_neg (by omega)]
    simp [w1, h1]
  simp [w1, h1]
  refine awp_loop (fun n σ => ∃ i : Nat, i ≤ xs.length ∧ n = xs.length - i ∧ (wL wGram (xs.take i) : Int) - i ≤ left - xs.length ∧ σ = ⟨[(0, .one (.ar false 0 1 (xs.map sGram))), (1, aI (left - xs.length - ((wL wGram (xs.take i) : Int) - i))), (5, aI i)], []⟩) (xs.length) ⟨0, by simp [wL]; omega⟩ ?_
  rintro n σ ⟨i, hi, rfl, hle, rfl⟩
  have hge := wL_len wGram (xs.take i)
  rw [List.length_take, Nat.min_eq_left hi] at hge
  by_cases h : i < xs.length
  · have hst := wL_take wGram h
    have hle2 := wL_take_le wGram xs (i + 1)
    have hlen2 := wL_len wGram (xs.drop (i + 1))
    have happ := wL_append wGram (xs.take (i + 1)) (xs.drop (i + 1))
    rw [List.take_append_drop] at happ
    rw [List.length_drop] at hlen2
    simp [h, sGram]
    refine callG_F (h_szGram xs[i] _ (hl.2 i h) (by omega) (by omega)) (by simp) ?_
    generalize hv : left - (xs.length : Int) - ((wL wGram (xs.take i) : Int) - i) = v at *
    by_cases h4 : v < (wGram xs[i] : Int)
    · simp only [lft_neg h4]
      rw [lft_neg (by omega)]
      simp
    · have e : lft v (wGram xs[i]) = v - wGram xs[i] := lft_pos (by omega)
      have n1 : ¬ v - (wGram xs[i] : Int) < 0 := by omega
      simp [e, n1]
      refine ⟨xs.length - (i + 1), by omega, i + 1, by omega, rfl, by omega, ?_⟩
      rw [wrapI (by omega) (by omega)]
      simp; omega
  · have : i = xs.length := by omega
    subst this
    rw [List.take_length] at hle
    rw [lft_pos (by omega)]
    simp
    omega
end
section -- Conf_sz1
attribute [-simp] cS_t cS_f row20_len row20_sc row20_view row20_store row20_aff row20_ref row20_noSh row20_shr row20_lend row20_take row20_drop setR_noSh
-- laws.szConf
def k_laws_szConf : K := dc 0x1042c12c10020400c4101e4104100a08a03924d1090400810000480481c6087ac51c10061400421420461410040390420026ac202040
def r_laws_szConf : Nat × List RV := (12, [.t 4])
theorem c_laws_szConf : codeIs PA 284 r_laws_szConf k_laws_szConf := by unfold codeIs; kernel_rfl

theorem h_szConf (a : TConf) (left : Int) (h : lConf a) (h2 : 0 ≤ left) (h3 : left < 2 ^ 40) : CallsF Tryz.prog 284 [.agg (sConf a), aI left] (aI (lft left (wConf a))) := by
  refine Prun c_laws_szConf (by simp [r_laws_szConf]) (by simp) ?_
  (conv in k_laws_szConf => reduce); unfold r_laws_szConf
  simp only [lConf] at h
  simp only [wConf]
  have hl0 := h
  simp [sConf]
  refine callG_F (h_szIntS a.row (left) hl0 (by omega) (by omega)) (by simp) ?_
  by_cases g0 : left < (wL w0 a.row : Int)
  case pos => simp only [lft_neg g0]; simp; try rw [lft_neg (by omega)]
  simp only [lft_pos (show (wL w0 a.row : Int) ≤ left by omega)]
  have n0 : ¬ left - (wL w0 a.row : Int) < 0 := by omega
  simp [n0]
  try rw [lft_pos (by omega)]
  try omega
end
section -- Conf_sz
attribute [-simp] cS_t cS_f row20_len row20_sc row20_view row20_store row20_aff row20_ref row20_noSh row20_shr row20_lend row20_take row20_drop setR_noSh
-- laws.szConfS
def k_laws_szConfS : K := dc 0x411a05a040081005441442e50004405003043104079041040642640e583446010020400570575950b4ac55810155010825134821d31404800070400450001833c23ce30d10e34334000c1401010000371410041410031c01450390410400031040790410402c22c0e4a3442810020400012412481811081c31c0006040141004039041040
def r_laws_szConfS : Nat × List RV := (27, [.t 4])
theorem c_laws_szConfS : codeIs PA 240 r_laws_szConfS k_laws_szConfS := by unfold codeIs; kernel_rfl

theorem h_szConfS (xs : List TConf) (left : Int) (hl : lL lConf xs) (h2 : 0 ≤ left) (h3 : left < 2 ^ 40) : CallsF Tryz.prog 240 [.one (.ar false 0 2 (xs.map sConf)), aI left] (aI (lft left (wL wConf xs))) := by
  refine Prun c_laws_szConfS (by simp [r_laws_szConfS]) (by simp) ?_
  (conv in k_laws_szConfS => reduce); unfold r_laws_szConfS
  have hlen := hl.1
  have hlw := wL_len wConf xs
  have w1 : IntKind.i64.wrap (left - xs.length) = left - xs.length := wrapI (by omega) (by omega)
  by_cases h1 : left - (xs.length : Int) < 0
  · rw [lft_neg (by omega)]
    simp [w1, h1]
  simp [w1, h1]
  refine awp_loop (fun n σ => ∃ i : Nat, i ≤ xs.length ∧ n = xs.length - i ∧ (wL wConf (xs.take i) : Int) - i ≤ left - xs.length ∧ σ = ⟨[(0, .one (.ar false 0 2 (xs.map sConf))), (1, aI (left - xs.length - ((wL wConf (xs.take i) : Int) - i))), (5, aI i)], []⟩) (xs.length) ⟨0, by simp [wL]; omega⟩ ?_
  rintro n σ ⟨i, hi, rfl, hle, rfl⟩
  have hge := wL_len wConf (xs.take i)
  rw [List.length_take, Nat.min_eq_left hi] at hge
  by_cases h : i < xs.length
  · have hst := wL_take wConf h
    have hle2 := wL_take_le wConf xs (i + 1)
    have hlen2 := wL_len wConf (xs.drop (i + 1))
    have happ := wL_append wConf (xs.take (i + 1)) (xs.drop (i + 1))
    rw [List.take_append_drop] at happ
    rw [List.length_drop] at hlen2
    simp [h, sConf]
    refine callG_F (h_szConf xs[i] _ (hl.2 i h) (by omega) (by omega)) (by simp) ?_
    generalize hv : left - (xs.length : Int) - ((wL wConf (xs.take i) : Int) - i) = v at *
    by_cases h4 : v < (wConf xs[i] : Int)
    · simp only [lft_neg h4]
      rw [lft_neg (by omega)]
      simp
    · have e : lft v (wConf xs[i]) = v - wConf xs[i] := lft_pos (by omega)
      have n1 : ¬ v - (wConf xs[i] : Int) < 0 := by omega
      simp [e, n1]
      refine ⟨xs.length - (i + 1), by omega, i + 1, by omega, rfl, by omega, ?_⟩
      rw [wrapI (by omega) (by omega)]
      simp; omega
  · have : i = xs.length := by omega
    subst this
    rw [List.take_length] at hle
    rw [lft_pos (by omega)]
    simp
    omega
end
section -- Line_sz1
attribute [-simp] cS_t cS_f row20_len row20_sc row20_view row20_store row20_aff row20_ref row20_noSh row20_shr row20_lend row20_take row20_drop setR_noSh
-- laws.szLine
def k_laws_szLine : K := dc 0x4111051040081003104079041040402400e4f3443c100204000138138d30222b14d04030b00108b0821850400c4101e4104100a08a03924d1090400810000480481c6088ac51c1006140042142006141004039042003f2a202040
def r_laws_szLine : Nat × List RV := (18, [.t 4])
theorem c_laws_szLine : codeIs PA 192 r_laws_szLine k_laws_szLine := by unfold codeIs; kernel_rfl

theorem h_szLine (a : TLine) (left : Int) (h : lLine a) (h2 : 0 ≤ left) (h3 : left < 2 ^ 40) : CallsF Tryz.prog 192 [.agg (sLine a), aI left] (aI (lft left (wLine a))) := by
  refine Prun c_laws_szLine (by simp [r_laws_szLine]) (by simp) ?_
  (conv in k_laws_szLine => reduce); unfold r_laws_szLine
  simp only [lLine] at h
  simp only [wLine]
  obtain ⟨hl0, hl1⟩ := h
  simp [sLine]
  refine callG_F (h_szConfS a.frm (left) hl0 (by omega) (by omega)) (by simp) ?_
  by_cases g0 : left < (wL wConf a.frm : Int)
  case pos => simp only [lft_neg g0]; simp; try rw [lft_neg (by omega)]
  simp only [lft_pos (show (wL wConf a.frm : Int) ≤ left by omega)]
  have n0 : ¬ left - (wL wConf a.frm : Int) < 0 := by omega
  simp [n0]
  refine callG_F (h_szConfS a.too (left - (wL wConf a.frm : Int)) hl1 (by omega) (by omega)) (by simp) ?_
  by_cases g1 : left - (wL wConf a.frm : Int) < (wL wConf a.too : Int)
  case pos => simp only [lft_neg g1]; simp; try rw [lft_neg (by omega)]
  simp only [lft_pos (show (wL wConf a.too : Int) ≤ left - (wL wConf a.frm : Int) by omega)]
  have n1 : ¬ left - (wL wConf a.frm : Int) - (wL wConf a.too : Int) < 0 := by omega
  simp [n1]
  try rw [lft_pos (by omega)]
  try omega
end
section -- Line_sz
attribute [-simp] cS_t cS_f row20_len row20_sc row20_view row20_store row20_aff row20_ref row20_noSh row20_shr row20_lend row20_take row20_drop setR_noSh
-- laws.szLineS
def k_laws_szLineS : K := dc 0x411a05a040081005441442e50004405003043104079041040642640e58344601002040057057595098a855810155010c25134831d31404800070400450001833c23ce30d10e34334000c1401010000371410041410031c01450390410400031040790410402c22c0e4a3442810020400012412481811081c31c0006040141004039041040
def r_laws_szLineS : Nat × List RV := (27, [.t 4])
theorem c_laws_szLineS : codeIs PA 131 r_laws_szLineS k_laws_szLineS := by unfold codeIs; kernel_rfl

theorem h_szLineS (xs : List TLine) (left : Int) (hl : lL lLine xs) (h2 : 0 ≤ left) (h3 : left < 2 ^ 40) : CallsF Tryz.prog 131 [.one (.ar false 0 3 (xs.map sLine)), aI left] (aI (lft left (wL wLine xs))) := by
  refine Prun c_laws_szLineS (by simp [r_laws_szLineS]) (by simp) ?_
  (conv in k_laws_szLineS => reduce); unfold r_laws_szLineS
  have hlen := hl.1
  have hlw := wL_len wLine xs
  have w1 : IntKind.i64.wrap (left - xs.length) = left - xs.length := wrapI (by omega) (by omega)
  by_cases h1 : left - (xs.length : Int) < 0
  · rw [lft_neg (by omega)]
    simp [w1, h1]
  simp [w1, h1]
  refine awp_loop (fun n σ => ∃ i : Nat, i ≤ xs.length ∧ n = xs.length - i ∧ (wL wLine (xs.take i) : Int) - i ≤ left - xs.length ∧ σ = ⟨[(0, .one (.ar false 0 3 (xs.map sLine))), (1, aI (left - xs.length - ((wL wLine (xs.take i) : Int) - i))), (5, aI i)], []⟩) (xs.length) ⟨0, by simp [wL]; omega⟩ ?_
  rintro n σ ⟨i, hi, rfl, hle, rfl⟩
  have hge := wL_len wLine (xs.take i)
  rw [List.length_take, Nat.min_eq_left hi] at hge
  by_cases h : i < xs.length
  · have hst := wL_take wLine h
    have hle2 := wL_take_le wLine xs (i + 1)
    have hlen2 := wL_len wLine (xs.drop (i + 1))
    have happ := wL_append wLine (xs.take (i + 1)) (xs.drop (i + 1))
    rw [List.take_append_drop] at happ
    rw [List.length_drop] at hlen2
    simp [h, sLine]
    refine callG_F (h_szLine xs[i] _ (hl.2 i h) (by omega) (by omega)) (by simp) ?_
    generalize hv : left - (xs.length : Int) - ((wL wLine (xs.take i) : Int) - i) = v at *
    by_cases h4 : v < (wLine xs[i] : Int)
    · simp only [lft_neg h4]
      rw [lft_neg (by omega)]
      simp
    · have e : lft v (wLine xs[i]) = v - wLine xs[i] := lft_pos (by omega)
      have n1 : ¬ v - (wLine xs[i] : Int) < 0 := by omega
      simp [e, n1]
      refine ⟨xs.length - (i + 1), by omega, i + 1, by omega, rfl, by omega, ?_⟩
      rw [wrapI (by omega) (by omega)]
      simp; omega
  · have : i = xs.length := by omega
    subst this
    rw [List.take_length] at hle
    rw [lft_pos (by omega)]
    simp
    omega
end
section -- Store_sz1
attribute [-simp] cS_t cS_f row20_len row20_sc row20_view row20_store row20_aff row20_ref row20_noSh row20_shr row20_lend row20_take row20_drop setR_noSh
-- laws.szStore
def k_laws_szStore : K := dc 0x1042c12c10020400c4101e4104100a08a03924d1090400810000480481c609ba451c1006140042142046141004039042002629202040
def r_laws_szStore : Nat × List RV := (12, [.t 4])
theorem c_laws_szStore : codeIs PA 88 r_laws_szStore k_laws_szStore := by unfold codeIs; kernel_rfl

theorem h_szStore (a : TStore) (left : Int) (h : lStore a) (h2 : 0 ≤ left) (h3 : left < 2 ^ 40) : CallsF Tryz.prog 88 [.agg (sStore a), aI left] (aI (lft left (wStore a))) := by
  refine Prun c_laws_szStore (by simp [r_laws_szStore]) (by simp) ?_
  (conv in k_laws_szStore => reduce); unfold r_laws_szStore
  simp only [lStore] at h
  simp only [wStore]
  have hl0 := h
  simp [sStore]
  refine callG_F (h_szLineS a.lines (left) hl0 (by omega) (by omega)) (by simp) ?_
  by_cases g0 : left < (wL wLine a.lines : Int)
  case pos => simp only [lft_neg g0]; simp; try rw [lft_neg (by omega)]
  simp only [lft_pos (show (wL wLine a.lines : Int) ≤ left by omega)]
  have n0 : ¬ left - (wL wLine a.lines : Int) < 0 := by omega
  simp [n0]
  try rw [lft_pos (by omega)]
  try omega
end
section -- Store_sz
attribute [-simp] cS_t cS_f row20_len row20_sc row20_view row20_store row20_aff row20_ref row20_noSh row20_shr row20_lend row20_take row20_drop setR_noSh
-- laws.szStoreS
def k_laws_szStoreS : K := dc 0x411a05a040081005441442e50004405003043104079041040642640e583446010020400570575950b0a055810155010825134821d31404800070400450001833c23ce30d10e34334000c1401010000371410041410031c01450390410400031040790410402c22c0e4a3442810020400012412481811081c31c0006040141004039041040
def r_laws_szStoreS : Nat × List RV := (27, [.t 4])
theorem c_laws_szStoreS : codeIs PA 43 r_laws_szStoreS k_laws_szStoreS := by unfold codeIs; kernel_rfl

theorem h_szStoreS (xs : List TStore) (left : Int) (hl : lL lStore xs) (h2 : 0 ≤ left) (h3 : left < 2 ^ 40) : CallsF Tryz.prog 43 [.one (.ar false 0 2 (xs.map sStore)), aI left] (aI (lft left (wL wStore xs))) := by
  refine Prun c_laws_szStoreS (by simp [r_laws_szStoreS]) (by simp) ?_
  (conv in k_laws_szStoreS => reduce); unfold r_laws_szStoreS
  have hlen := hl.1
  have hlw := wL_len wStore xs
  have w1 : IntKind.i64.wrap (left - xs.length) = left - xs.length := wrapI (by omega) (by omega)
  by_cases h1 : left - (xs.length : Int) < 0
  · rw [lft_neg (by omega)]
    simp [w1, h1]
  simp [w1, h1]
  refine awp_loop (fun n σ => ∃ i : Nat, i ≤ xs.length ∧ n = xs.length - i ∧ (wL wStore (xs.take i) : Int) - i ≤ left - xs.length ∧ σ = ⟨[(0, .one (.ar false 0 2 (xs.map sStore))), (1, aI (left - xs.length - ((wL wStore (xs.take i) : Int) - i))), (5, aI i)], []⟩) (xs.length) ⟨0, by simp [wL]; omega⟩ ?_
  rintro n σ ⟨i, hi, rfl, hle, rfl⟩
  have hge := wL_len wStore (xs.take i)
  rw [List.length_take, Nat.min_eq_left hi] at hge
  by_cases h : i < xs.length
  · have hst := wL_take wStore h
    have hle2 := wL_take_le wStore xs (i + 1)
    have hlen2 := wL_len wStore (xs.drop (i + 1))
    have happ := wL_append wStore (xs.take (i + 1)) (xs.drop (i + 1))
    rw [List.take_append_drop] at happ
    rw [List.length_drop] at hlen2
    simp [h, sStore]
    refine callG_F (h_szStore xs[i] _ (hl.2 i h) (by omega) (by omega)) (by simp) ?_
    generalize hv : left - (xs.length : Int) - ((wL wStore (xs.take i) : Int) - i) = v at *
    by_cases h4 : v < (wStore xs[i] : Int)
    · simp only [lft_neg h4]
      rw [lft_neg (by omega)]
      simp
    · have e : lft v (wStore xs[i]) = v - wStore xs[i] := lft_pos (by omega)
      have n1 : ¬ v - (wStore xs[i] : Int) < 0 := by omega
      simp [e, n1]
      refine ⟨xs.length - (i + 1), by omega, i + 1, by omega, rfl, by omega, ?_⟩
      rw [wrapI (by omega) (by omega)]
      simp; omega
  · have : i = xs.length := by omega
    subst this
    rw [List.take_length] at hle
    rw [lft_pos (by omega)]
    simp
    omega
end
section -- Err_sz
attribute [-simp] cS_t cS_f row20_len row20_sc row20_view row20_store row20_aff row20_ref row20_noSh row20_shr row20_lend row20_take row20_drop setR_noSh
-- laws.szErrS
def k_laws_szErrS : K := dc 0x410b04b040081003104079041040282280e49344241002040001201207141107183180005040141004039041040
def r_laws_szErrS : Nat × List RV := (12, [.t 4])
theorem c_laws_szErrS : codeIs PA 287 r_laws_szErrS k_laws_szErrS := by unfold codeIs; kernel_rfl

theorem wL_wErr : ∀ xs : List TErr, wL wErr xs = xs.length
  | [] => rfl
  | x :: xs => by rw [wL, wL_wErr xs, List.length_cons]; simp only [wErr]; omega
theorem h_szErrS (xs : List TErr) (left : Int) (h : lL lErr xs) (h2 : 0 ≤ left) (h3 : left < 2 ^ 40) : CallsF Tryz.prog 287 [.one (.ar false 0 3 (xs.map sErr)), aI left] (aI (lft left (wL wErr xs))) := by
  refine Prun c_laws_szErrS (by simp [r_laws_szErrS]) (by simp) ?_
  (conv in k_laws_szErrS => reduce); unfold r_laws_szErrS
  have h := h.1
  rw [wL_wErr, lft]
  have hw : IntKind.i64.wrap (left - xs.length) = left - xs.length := wrapI (by omega) (by omega)
  by_cases h : left - xs.length < 0
  · simp [hw, h]
  · simp [hw, h]
end
section -- Slot_sz
attribute [-simp] cS_t cS_f row20_len row20_sc row20_view row20_store row20_aff row20_ref row20_noSh row20_shr row20_lend row20_take row20_drop setR_noSh
-- laws.szSlotS
def k_laws_szSlotS : K := dc 0x410b04b040081003104079041040282280e49344241002040001201207141107183180005040141004039041040
def r_laws_szSlotS : Nat × List RV := (12, [.t 4])
theorem c_laws_szSlotS : codeIs PA 285 r_laws_szSlotS k_laws_szSlotS := by unfold codeIs; kernel_rfl

theorem wL_wSlot : ∀ xs : List TSlot, wL wSlot xs = xs.length
  | [] => rfl
  | x :: xs => by rw [wL, wL_wSlot xs, List.length_cons]; simp only [wSlot]; omega
theorem h_szSlotS (xs : List TSlot) (left : Int) (h : lL lSlot xs) (h2 : 0 ≤ left) (h3 : left < 2 ^ 40) : CallsF Tryz.prog 285 [.one (.ar false 0 2 (xs.map sSlot)), aI left] (aI (lft left (wL wSlot xs))) := by
  refine Prun c_laws_szSlotS (by simp [r_laws_szSlotS]) (by simp) ?_
  (conv in k_laws_szSlotS => reduce); unfold r_laws_szSlotS
  have h := h.1
  rw [wL_wSlot, lft]
  have hw : IntKind.i64.wrap (left - xs.length) = left - xs.length := wrapI (by omega) (by omega)
  by_cases h : left - xs.length < 0
  · simp [hw, h]
  · simp [hw, h]
end
section -- Node_sz1
attribute [-simp] cS_t cS_f row20_len row20_sc row20_view row20_store row20_aff row20_ref row20_noSh row20_shr row20_lend row20_take row20_drop setR_noSh
-- laws.szNode
def k_laws_szNode : K := dc 0x1042c12c10020400c4101e4104100a08a03924d1090400810000480481c6087ac51c10061400421421061410040390420056ad202040
def r_laws_szNode : Nat × List RV := (12, [.t 4])
theorem c_laws_szNode : codeIs PA 343 r_laws_szNode k_laws_szNode := by unfold codeIs; kernel_rfl

theorem h_szNode (a : TNode) (left : Int) (h : lNode a) (h2 : 0 ≤ left) (h3 : left < 2 ^ 40) : CallsF Tryz.prog 343 [.agg (sNode a), aI left] (aI (lft left (wNode a))) := by
  refine Prun c_laws_szNode (by simp [r_laws_szNode]) (by simp) ?_
  (conv in k_laws_szNode => reduce); unfold r_laws_szNode
  simp only [lNode] at h
  simp only [wNode]
  have hl0 := h
  simp [sNode]
  refine callG_F (h_szIntS a.kids (left) hl0 (by omega) (by omega)) (by simp) ?_
  by_cases g0 : left < (wL w0 a.kids : Int)
  case pos => simp only [lft_neg g0]; simp; try rw [lft_neg (by omega)]
  simp only [lft_pos (show (wL w0 a.kids : Int) ≤ left by omega)]
  have n0 : ¬ left - (wL w0 a.kids : Int) < 0 := by omega
  simp [n0]
  try rw [lft_pos (by omega)]
  try omega
end
section -- Node_sz
attribute [-simp] cS_t cS_f row20_len row20_sc row20_view row20_store row20_aff row20_ref row20_noSh row20_shr row20_lend row20_take row20_drop setR_noSh
-- laws.szNodeS
def k_laws_szNodeS : K := dc 0x411a05a040081005441442e50004405003043104079041040642640e583446010020400570575950afb055810155011425134851d31404800070400450001833c23ce30d10e34334000c1401010000371410041410031c01450390410400031040790410402c22c0e4a3442810020400012412481811081c31c0006040141004039041040
def r_laws_szNodeS : Nat × List RV := (27, [.t 4])
theorem c_laws_szNodeS : codeIs PA 320 r_laws_szNodeS k_laws_szNodeS := by unfold codeIs; kernel_rfl

theorem h_szNodeS (xs : List TNode) (left : Int) (hl : lL lNode xs) (h2 : 0 ≤ left) (h3 : left < 2 ^ 40) : CallsF Tryz.prog 320 [.one (.ar false 0 5 (xs.map sNode)), aI left] (aI (lft left (wL wNode xs))) := by
  refine Prun c_laws_szNodeS (by simp [r_laws_szNodeS]) (by simp) ?_
  (conv in k_laws_szNodeS => reduce); unfold r_laws_szNodeS
  have hlen := hl.1
  have hlw := wL_len wNode xs
  have w1 : IntKind.i64.wrap (left - xs.length) = left - xs.length := wrapI (by omega) (by omega)
  by_cases h1 : left - (xs.length : Int) < 0
  · rw [lft_neg (by omega)]
    simp [w1, h1]
  simp [w1, h1]
  refine awp_loop (fun n σ => ∃ i : Nat, i ≤ xs.length ∧ n = xs.length - i ∧ (wL wNode (xs.take i) : Int) - i ≤ left - xs.length ∧ σ = ⟨[(0, .one (.ar false 0 5 (xs.map sNode))), (1, aI (left - xs.length - ((wL wNode (xs.take i) : Int) - i))), (5, aI i)], []⟩) (xs.length) ⟨0, by simp [wL]; omega⟩ ?_
  rintro n σ ⟨i, hi, rfl, hle, rfl⟩
  have hge := wL_len wNode (xs.take i)
  rw [List.length_take, Nat.min_eq_left hi] at hge
  by_cases h : i < xs.length
  · have hst := wL_take wNode h
    have hle2 := wL_take_le wNode xs (i + 1)
    have hlen2 := wL_len wNode (xs.drop (i + 1))
    have happ := wL_append wNode (xs.take (i + 1)) (xs.drop (i + 1))
    rw [List.take_append_drop] at happ
    rw [List.length_drop] at hlen2
    simp [h, sNode]
    refine callG_F (h_szNode xs[i] _ (hl.2 i h) (by omega) (by omega)) (by simp) ?_
    generalize hv : left - (xs.length : Int) - ((wL wNode (xs.take i) : Int) - i) = v at *
    by_cases h4 : v < (wNode xs[i] : Int)
    · simp only [lft_neg h4]
      rw [lft_neg (by omega)]
      simp
    · have e : lft v (wNode xs[i]) = v - wNode xs[i] := lft_pos (by omega)
      have n1 : ¬ v - (wNode xs[i] : Int) < 0 := by omega
      simp [e, n1]
      refine ⟨xs.length - (i + 1), by omega, i + 1, by omega, rfl, by omega, ?_⟩
      rw [wrapI (by omega) (by omega)]
      simp; omega
  · have : i = xs.length := by omega
    subst this
    rw [List.take_length] at hle
    rw [lft_pos (by omega)]
    simp
    omega
end
section -- Tree_sz1
attribute [-simp] cS_t cS_f row20_len row20_sc row20_view row20_store row20_aff row20_ref row20_noSh row20_shr row20_lend row20_take row20_drop setR_noSh
-- laws.szTree
def k_laws_szTree : K := dc 0x1042c12c10020400c4101e4104100a08a03924d1090400810000480481c6098b051c100614004214200614100403904200106b202040
def r_laws_szTree : Nat × List RV := (12, [.t 4])
theorem c_laws_szTree : codeIs PA 286 r_laws_szTree k_laws_szTree := by unfold codeIs; kernel_rfl

theorem h_szTree (a : TTree) (left : Int) (h : lTree a) (h2 : 0 ≤ left) (h3 : left < 2 ^ 40) : CallsF Tryz.prog 286 [.agg (sTree a), aI left] (aI (lft left (wTree a))) := by
  refine Prun c_laws_szTree (by simp [r_laws_szTree]) (by simp) ?_
  (conv in k_laws_szTree => reduce); unfold r_laws_szTree
  simp only [lTree] at h
  simp only [wTree]
  have hl0 := h
  simp [sTree]
  refine callG_F (h_szNodeS a.nodes (left) hl0 (by omega) (by omega)) (by simp) ?_
  by_cases g0 : left < (wL wNode a.nodes : Int)
  case pos => simp only [lft_neg g0]; simp; try rw [lft_neg (by omega)]
  simp only [lft_pos (show (wL wNode a.nodes : Int) ≤ left by omega)]
  have n0 : ¬ left - (wL wNode a.nodes : Int) < 0 := by omega
  simp [n0]
  try rw [lft_pos (by omega)]
  try omega
end
section -- Run_sz1
attribute [-simp] cS_t cS_f row20_len row20_sc row20_view row20_store row20_aff row20_ref row20_noSh row20_shr row20_lend row20_take row20_drop setR_noSh
-- laws.szRun
def k_laws_szRun : K := dc 0x1045c15c10020400c4101e4104101609603954d1150400810000540544d20b7ac54c1012440042442186141003104079041040402400e4f3443c100204000138138d302dab14d04030b04108b0851850400c4101e4104100a08a03924d1090400810000480481c60b5ac51c100614004214210614100403904200712b202040
def r_laws_szRun : Nat × List RV := (24, [.t 4])
theorem c_laws_szRun : codeIs PA 241 r_laws_szRun k_laws_szRun := by unfold codeIs; kernel_rfl

theorem h_szRun (a : TRun) (left : Int) (h : lRun a) (h2 : 0 ≤ left) (h3 : left < 2 ^ 40) : CallsF Tryz.prog 241 [.agg (sRun a), aI left] (aI (lft left (wRun a))) := by
  refine Prun c_laws_szRun (by simp [r_laws_szRun]) (by simp) ?_
  (conv in k_laws_szRun => reduce); unfold r_laws_szRun
  simp only [lRun] at h
  simp only [wRun]
  obtain ⟨hl0, hl1, hl2⟩ := h
  simp [sRun]
  refine callG_F (h_szSlotS a.slots (left) hl0 (by omega) (by omega)) (by simp) ?_
  by_cases g0 : left < (wL wSlot a.slots : Int)
  case pos => simp only [lft_neg g0]; simp; try rw [lft_neg (by omega)]
  simp only [lft_pos (show (wL wSlot a.slots : Int) ≤ left by omega)]
  have n0 : ¬ left - (wL wSlot a.slots : Int) < 0 := by omega
  simp [n0]
  refine callG_F (h_szTree a.tree (left - (wL wSlot a.slots : Int)) hl1 (by omega) (by omega)) (by simp) ?_
  by_cases g1 : left - (wL wSlot a.slots : Int) < (wTree a.tree : Int)
  case pos => simp only [lft_neg g1]; simp; try rw [lft_neg (by omega)]
  simp only [lft_pos (show (wTree a.tree : Int) ≤ left - (wL wSlot a.slots : Int) by omega)]
  have n1 : ¬ left - (wL wSlot a.slots : Int) - (wTree a.tree : Int) < 0 := by omega
  simp [n1]
  refine callG_F (h_szErrS a.errs (left - (wL wSlot a.slots : Int) - (wTree a.tree : Int)) hl2 (by omega) (by omega)) (by simp) ?_
  by_cases g2 : left - (wL wSlot a.slots : Int) - (wTree a.tree : Int) < (wL wErr a.errs : Int)
  case pos => simp only [lft_neg g2]; simp; try rw [lft_neg (by omega)]
  simp only [lft_pos (show (wL wErr a.errs : Int) ≤ left - (wL wSlot a.slots : Int) - (wTree a.tree : Int) by omega)]
  have n2 : ¬ left - (wL wSlot a.slots : Int) - (wTree a.tree : Int) - (wL wErr a.errs : Int) < 0 := by omega
  simp [n2]
  try rw [lft_pos (by omega)]
  try omega
end
section -- Job_sz1
attribute [-simp] cS_t cS_f row20_len row20_sc row20_view row20_store row20_aff row20_ref row20_noSh row20_shr row20_lend row20_take row20_drop setR_noSh
-- laws.szJob
def k_laws_szJob : K := dc 0x4111051040081003104079041040402400e4f3443c100204000138138d30226b14d04030b04708b0831850400c4101e4104100a08a03924d1090400810000480481c6087ac51c100614004214208614100403904200a1ab202040
def r_laws_szJob : Nat × List RV := (18, [.t 4])
theorem c_laws_szJob : codeIs PA 193 r_laws_szJob k_laws_szJob := by unfold codeIs; kernel_rfl

theorem h_szJob (a : TJob) (left : Int) (h : lJob a) (h2 : 0 ≤ left) (h3 : left < 2 ^ 40) : CallsF Tryz.prog 193 [.agg (sJob a), aI left] (aI (lft left (wJob a))) := by
  refine Prun c_laws_szJob (by simp [r_laws_szJob]) (by simp) ?_
  (conv in k_laws_szJob => reduce); unfold r_laws_szJob
  simp only [lJob] at h
  simp only [wJob]
  obtain ⟨hl0, hl1⟩ := h
  simp [sJob]
  refine callG_F (h_szIntS a.input (left) hl0 (by omega) (by omega)) (by simp) ?_
  by_cases g0 : left < (wL w0 a.input : Int)
  case pos => simp only [lft_neg g0]; simp; try rw [lft_neg (by omega)]
  simp only [lft_pos (show (wL w0 a.input : Int) ≤ left by omega)]
  have n0 : ¬ left - (wL w0 a.input : Int) < 0 := by omega
  simp [n0]
  refine callG_F (h_szRun a.run (left - (wL w0 a.input : Int)) hl1 (by omega) (by omega)) (by simp) ?_
  by_cases g1 : left - (wL w0 a.input : Int) < (wRun a.run : Int)
  case pos => simp only [lft_neg g1]; simp; try rw [lft_neg (by omega)]
  simp only [lft_pos (show (wRun a.run : Int) ≤ left - (wL w0 a.input : Int) by omega)]
  have n1 : ¬ left - (wL w0 a.input : Int) - (wRun a.run : Int) < 0 := by omega
  simp [n1]
  try rw [lft_pos (by omega)]
  try omega
end
section -- Job_sz
attribute [-simp] cS_t cS_f row20_len row20_sc row20_view row20_store row20_aff row20_ref row20_noSh row20_shr row20_lend row20_take row20_drop setR_noSh
-- laws.szJobS
def k_laws_szJobS : K := dc 0x411a05a040081005441442e50004405003043104079041040642640e58344601002040057057595099a8558101550128251348a1d31404800070400450001833c23ce30d10e34334000c1401010000371410041410031c01450390410400031040790410402c22c0e4a3442810020400012412481811081c31c0006040141004039041040
def r_laws_szJobS : Nat × List RV := (27, [.t 4])
theorem c_laws_szJobS : codeIs PA 132 r_laws_szJobS k_laws_szJobS := by unfold codeIs; kernel_rfl

theorem h_szJobS (xs : List TJob) (left : Int) (hl : lL lJob xs) (h2 : 0 ≤ left) (h3 : left < 2 ^ 40) : CallsF Tryz.prog 132 [.one (.ar false 0 10 (xs.map sJob)), aI left] (aI (lft left (wL wJob xs))) := by
  refine Prun c_laws_szJobS (by simp [r_laws_szJobS]) (by simp) ?_
  (conv in k_laws_szJobS => reduce); unfold r_laws_szJobS
  have hlen := hl.1
  have hlw := wL_len wJob xs
  have w1 : IntKind.i64.wrap (left - xs.length) = left - xs.length := wrapI (by omega) (by omega)
  by_cases h1 : left - (xs.length : Int) < 0
  · rw [lft_neg (by omega)]
    simp [w1, h1]
  simp [w1, h1]
  refine awp_loop (fun n σ => ∃ i : Nat, i ≤ xs.length ∧ n = xs.length - i ∧ (wL wJob (xs.take i) : Int) - i ≤ left - xs.length ∧ σ = ⟨[(0, .one (.ar false 0 10 (xs.map sJob))), (1, aI (left - xs.length - ((wL wJob (xs.take i) : Int) - i))), (5, aI i)], []⟩) (xs.length) ⟨0, by simp [wL]; omega⟩ ?_
  rintro n σ ⟨i, hi, rfl, hle, rfl⟩
  have hge := wL_len wJob (xs.take i)
  rw [List.length_take, Nat.min_eq_left hi] at hge
  by_cases h : i < xs.length
  · have hst := wL_take wJob h
    have hle2 := wL_take_le wJob xs (i + 1)
    have hlen2 := wL_len wJob (xs.drop (i + 1))
    have happ := wL_append wJob (xs.take (i + 1)) (xs.drop (i + 1))
    rw [List.take_append_drop] at happ
    rw [List.length_drop] at hlen2
    simp [h, sJob]
    refine callG_F (h_szJob xs[i] _ (hl.2 i h) (by omega) (by omega)) (by simp) ?_
    generalize hv : left - (xs.length : Int) - ((wL wJob (xs.take i) : Int) - i) = v at *
    by_cases h4 : v < (wJob xs[i] : Int)
    · simp only [lft_neg h4]
      rw [lft_neg (by omega)]
      simp
    · have e : lft v (wJob xs[i]) = v - wJob xs[i] := lft_pos (by omega)
      have n1 : ¬ v - (wJob xs[i] : Int) < 0 := by omega
      simp [e, n1]
      refine ⟨xs.length - (i + 1), by omega, i + 1, by omega, rfl, by omega, ?_⟩
      rw [wrapI (by omega) (by omega)]
      simp; omega
  · have : i = xs.length := by omega
    subst this
    rw [List.take_length] at hle
    rw [lft_pos (by omega)]
    simp
    omega
end
section -- Outcome_sz1
attribute [-simp] cS_t cS_f row20_len row20_sc row20_view row20_store row20_aff row20_ref row20_noSh row20_shr row20_lend row20_take row20_drop setR_noSh
-- laws.szOutcome
def k_laws_szOutcome : K := dc 0x410c04c0400810031040790410402c22c0e4a3442810020400012412481411081de1c600108608218504018100403904200322b202040
def r_laws_szOutcome : Nat × List RV := (13, [.t 4])
theorem c_laws_szOutcome : codeIs PA 194 r_laws_szOutcome k_laws_szOutcome := by unfold codeIs; kernel_rfl

theorem h_szOutcome (a : TOutcome) (left : Int) (h : lOutcome a) (h2 : 0 ≤ left) (h3 : left < 2 ^ 40) : CallsF Tryz.prog 194 [.agg (sOutcome a), aI left] (aI (lft left (wOutcome a))) := by
  refine Prun c_laws_szOutcome (by simp [r_laws_szOutcome]) (by simp) ?_
  (conv in k_laws_szOutcome => reduce); unfold r_laws_szOutcome
  simp only [lOutcome] at h
  simp only [wOutcome]
  have hl0 := h
  simp [sOutcome]
  have ww0 : IntKind.i64.wrap (left - (a.text.size : Int)) = left - a.text.size := wrapI (by omega) (by omega)
  by_cases n0 : left - (a.text.size : Int) < 0
  case pos => simp [ww0, n0]; try rw [lft_neg (by omega)]
  simp [ww0, n0]
  try rw [lft_pos (by omega)]
  try omega
end
section -- Outcome_sz
attribute [-simp] cS_t cS_f row20_len row20_sc row20_view row20_store row20_aff row20_ref row20_noSh row20_shr row20_lend row20_take row20_drop setR_noSh
-- laws.szOutcomeS
def k_laws_szOutcomeS : K := dc 0x411a05a040081005441442e50004405003043104079041040642640e5834460100204005705759509aa855810155010c25134831d31404800070400450001833c23ce30d10e34334000c1401010000371410041410031c01450390410400031040790410402c22c0e4a3442810020400012412481811081c31c0006040141004039041040
def r_laws_szOutcomeS : Nat × List RV := (27, [.t 4])
theorem c_laws_szOutcomeS : codeIs PA 133 r_laws_szOutcomeS k_laws_szOutcomeS := by unfold codeIs; kernel_rfl

theorem h_szOutcomeS (xs : List TOutcome) (left : Int) (hl : lL lOutcome xs) (h2 : 0 ≤ left) (h3 : left < 2 ^ 40) : CallsF Tryz.prog 133 [.one (.ar false 0 3 (xs.map sOutcome)), aI left] (aI (lft left (wL wOutcome xs))) := by
  refine Prun c_laws_szOutcomeS (by simp [r_laws_szOutcomeS]) (by simp) ?_
  (conv in k_laws_szOutcomeS => reduce); unfold r_laws_szOutcomeS
  have hlen := hl.1
  have hlw := wL_len wOutcome xs
  have w1 : IntKind.i64.wrap (left - xs.length) = left - xs.length := wrapI (by omega) (by omega)
  by_cases h1 : left - (xs.length : Int) < 0
  · rw [lft_neg (by omega)]
    simp [w1, h1]
  simp [w1, h1]
  refine awp_loop (fun n σ => ∃ i : Nat, i ≤ xs.length ∧ n = xs.length - i ∧ (wL wOutcome (xs.take i) : Int) - i ≤ left - xs.length ∧ σ = ⟨[(0, .one (.ar false 0 3 (xs.map sOutcome))), (1, aI (left - xs.length - ((wL wOutcome (xs.take i) : Int) - i))), (5, aI i)], []⟩) (xs.length) ⟨0, by simp [wL]; omega⟩ ?_
  rintro n σ ⟨i, hi, rfl, hle, rfl⟩
  have hge := wL_len wOutcome (xs.take i)
  rw [List.length_take, Nat.min_eq_left hi] at hge
  by_cases h : i < xs.length
  · have hst := wL_take wOutcome h
    have hle2 := wL_take_le wOutcome xs (i + 1)
    have hlen2 := wL_len wOutcome (xs.drop (i + 1))
    have happ := wL_append wOutcome (xs.take (i + 1)) (xs.drop (i + 1))
    rw [List.take_append_drop] at happ
    rw [List.length_drop] at hlen2
    simp [h, sOutcome]
    refine callG_F (h_szOutcome xs[i] _ (hl.2 i h) (by omega) (by omega)) (by simp) ?_
    generalize hv : left - (xs.length : Int) - ((wL wOutcome (xs.take i) : Int) - i) = v at *
    by_cases h4 : v < (wOutcome xs[i] : Int)
    · simp only [lft_neg h4]
      rw [lft_neg (by omega)]
      simp
    · have e : lft v (wOutcome xs[i]) = v - wOutcome xs[i] := lft_pos (by omega)
      have n1 : ¬ v - (wOutcome xs[i] : Int) < 0 := by omega
      simp [e, n1]
      refine ⟨xs.length - (i + 1), by omega, i + 1, by omega, rfl, by omega, ?_⟩
      rw [wrapI (by omega) (by omega)]
      simp; omega
  · have : i = xs.length := by omega
    subst this
    rw [List.take_length] at hle
    rw [lft_pos (by omega)]
    simp
    omega
end
section -- Tenant_sz1
attribute [-simp] cS_t cS_f row20_len row20_sc row20_view row20_store row20_aff row20_ref row20_noSh row20_shr row20_lend row20_take row20_drop setR_noSh
-- laws.szTenant
def k_laws_szTenant : K := dc 0x4111051040081003104079041040402400e4f3443c100204000138138d30276914d04030b00108b0891850400c4101e4104100a08a03924d1090400810000480481c609ca451c100614004214220614100403904200a769202040
def r_laws_szTenant : Nat × List RV := (18, [.t 4])
theorem c_laws_szTenant : codeIs PA 89 r_laws_szTenant k_laws_szTenant := by unfold codeIs; kernel_rfl

theorem h_szTenant (a : TTenant) (left : Int) (h : lTenant a) (h2 : 0 ≤ left) (h3 : left < 2 ^ 40) : CallsF Tryz.prog 89 [.agg (sTenant a), aI left] (aI (lft left (wTenant a))) := by
  refine Prun c_laws_szTenant (by simp [r_laws_szTenant]) (by simp) ?_
  (conv in k_laws_szTenant => reduce); unfold r_laws_szTenant
  simp only [lTenant] at h
  simp only [wTenant]
  obtain ⟨hl0, hl1⟩ := h
  simp [sTenant]
  refine callG_F (h_szJobS a.queue (left) hl0 (by omega) (by omega)) (by simp) ?_
  by_cases g0 : left < (wL wJob a.queue : Int)
  case pos => simp only [lft_neg g0]; simp; try rw [lft_neg (by omega)]
  simp only [lft_pos (show (wL wJob a.queue : Int) ≤ left by omega)]
  have n0 : ¬ left - (wL wJob a.queue : Int) < 0 := by omega
  simp [n0]
  refine callG_F (h_szOutcomeS a.out (left - (wL wJob a.queue : Int)) hl1 (by omega) (by omega)) (by simp) ?_
  by_cases g1 : left - (wL wJob a.queue : Int) < (wL wOutcome a.out : Int)
  case pos => simp only [lft_neg g1]; simp; try rw [lft_neg (by omega)]
  simp only [lft_pos (show (wL wOutcome a.out : Int) ≤ left - (wL wJob a.queue : Int) by omega)]
  have n1 : ¬ left - (wL wJob a.queue : Int) - (wL wOutcome a.out : Int) < 0 := by omega
  simp [n1]
  try rw [lft_pos (by omega)]
  try omega
end
section -- Tenant_sz
attribute [-simp] cS_t cS_f row20_len row20_sc row20_view row20_store row20_aff row20_ref row20_noSh row20_shr row20_lend row20_take row20_drop setR_noSh
-- laws.szTenantS
def k_laws_szTenantS : K := dc 0x411a05a040081005441442e50004405003043104079041040642640e583446010020400570575950b1a0558101550128251348a1d31404800070400450001833c23ce30d10e34334000c1401010000371410041410031c01450390410400031040790410402c22c0e4a3442810020400012412481811081c31c0006040141004039041040
def r_laws_szTenantS : Nat × List RV := (27, [.t 4])
theorem c_laws_szTenantS : codeIs PA 44 r_laws_szTenantS k_laws_szTenantS := by unfold codeIs; kernel_rfl

theorem h_szTenantS (xs : List TTenant) (left : Int) (hl : lL lTenant xs) (h2 : 0 ≤ left) (h3 : left < 2 ^ 40) : CallsF Tryz.prog 44 [.one (.ar false 0 10 (xs.map sTenant)), aI left] (aI (lft left (wL wTenant xs))) := by
  refine Prun c_laws_szTenantS (by simp [r_laws_szTenantS]) (by simp) ?_
  (conv in k_laws_szTenantS => reduce); unfold r_laws_szTenantS
  have hlen := hl.1
  have hlw := wL_len wTenant xs
  have w1 : IntKind.i64.wrap (left - xs.length) = left - xs.length := wrapI (by omega) (by omega)
  by_cases h1 : left - (xs.length : Int) < 0
  · rw [lft_neg (by omega)]
    simp [w1, h1]
  simp [w1, h1]
  refine awp_loop (fun n σ => ∃ i : Nat, i ≤ xs.length ∧ n = xs.length - i ∧ (wL wTenant (xs.take i) : Int) - i ≤ left - xs.length ∧ σ = ⟨[(0, .one (.ar false 0 10 (xs.map sTenant))), (1, aI (left - xs.length - ((wL wTenant (xs.take i) : Int) - i))), (5, aI i)], []⟩) (xs.length) ⟨0, by simp [wL]; omega⟩ ?_
  rintro n σ ⟨i, hi, rfl, hle, rfl⟩
  have hge := wL_len wTenant (xs.take i)
  rw [List.length_take, Nat.min_eq_left hi] at hge
  by_cases h : i < xs.length
  · have hst := wL_take wTenant h
    have hle2 := wL_take_le wTenant xs (i + 1)
    have hlen2 := wL_len wTenant (xs.drop (i + 1))
    have happ := wL_append wTenant (xs.take (i + 1)) (xs.drop (i + 1))
    rw [List.take_append_drop] at happ
    rw [List.length_drop] at hlen2
    simp [h, sTenant]
    refine callG_F (h_szTenant xs[i] _ (hl.2 i h) (by omega) (by omega)) (by simp) ?_
    generalize hv : left - (xs.length : Int) - ((wL wTenant (xs.take i) : Int) - i) = v at *
    by_cases h4 : v < (wTenant xs[i] : Int)
    · simp only [lft_neg h4]
      rw [lft_neg (by omega)]
      simp
    · have e : lft v (wTenant xs[i]) = v - wTenant xs[i] := lft_pos (by omega)
      have n1 : ¬ v - (wTenant xs[i] : Int) < 0 := by omega
      simp [e, n1]
      refine ⟨xs.length - (i + 1), by omega, i + 1, by omega, rfl, by omega, ?_⟩
      rw [wrapI (by omega) (by omega)]
      simp; omega
  · have : i = xs.length := by omega
    subst this
    rw [List.take_length] at hle
    rw [lft_pos (by omega)]
    simp
    omega
end
section -- House_sz1
attribute [-simp] cS_t cS_f row20_len row20_sc row20_view row20_store row20_aff row20_ref row20_noSh row20_shr row20_lend row20_take row20_drop setR_noSh
-- laws.szHouse
def k_laws_szHouse : K := dc 0x4117057040081003104079041040582580e553445410020400015015134821281530404910010910841850400c4101e410410100900393cd10f04008100004e04e34c083a0534100c2c00422c20c6141003104079041040282280e493442410020400012012071820a8147040185001085082185040100e4108015a202040
def r_laws_szHouse : Nat × List RV := (24, [.t 4])
theorem c_laws_szHouse : codeIs PA 12 r_laws_szHouse k_laws_szHouse := by unfold codeIs; kernel_rfl

theorem h_szHouse (a : THouse) (left : Int) (h : lHouse a) (h2 : 0 ≤ left) (h3 : left < 2 ^ 40) : CallsF Tryz.prog 12 [.agg (sHouse a), aI left] (aI (lft left (wHouse a))) := by
  refine Prun c_laws_szHouse (by simp [r_laws_szHouse]) (by simp) ?_
  (conv in k_laws_szHouse => reduce); unfold r_laws_szHouse
  simp only [lHouse] at h
  simp only [wHouse]
  obtain ⟨hl0, hl1, hl2⟩ := h
  simp [sHouse]
  refine callG_F (h_szGramS a.grams (left) hl0 (by omega) (by omega)) (by simp) ?_
  by_cases g0 : left < (wL wGram a.grams : Int)
  case pos => simp only [lft_neg g0]; simp; try rw [lft_neg (by omega)]
  simp only [lft_pos (show (wL wGram a.grams : Int) ≤ left by omega)]
  have n0 : ¬ left - (wL wGram a.grams : Int) < 0 := by omega
  simp [n0]
  refine callG_F (h_szStoreS a.stores (left - (wL wGram a.grams : Int)) hl1 (by omega) (by omega)) (by simp) ?_
  by_cases g1 : left - (wL wGram a.grams : Int) < (wL wStore a.stores : Int)
  case pos => simp only [lft_neg g1]; simp; try rw [lft_neg (by omega)]
  simp only [lft_pos (show (wL wStore a.stores : Int) ≤ left - (wL wGram a.grams : Int) by omega)]
  have n1 : ¬ left - (wL wGram a.grams : Int) - (wL wStore a.stores : Int) < 0 := by omega
  simp [n1]
  refine callG_F (h_szTenantS a.tenants (left - (wL wGram a.grams : Int) - (wL wStore a.stores : Int)) hl2 (by omega) (by omega)) (by simp) ?_
  by_cases g2 : left - (wL wGram a.grams : Int) - (wL wStore a.stores : Int) < (wL wTenant a.tenants : Int)
  case pos => simp only [lft_neg g2]; simp; try rw [lft_neg (by omega)]
  simp only [lft_pos (show (wL wTenant a.tenants : Int) ≤ left - (wL wGram a.grams : Int) - (wL wStore a.stores : Int) by omega)]
  have n2 : ¬ left - (wL wGram a.grams : Int) - (wL wStore a.stores : Int) - (wL wTenant a.tenants : Int) < 0 := by omega
  simp [n2]
  try rw [lft_pos (by omega)]
  try omega
end
section -- IntSS_to
attribute [-simp] cS_t cS_f row20_len row20_sc row20_view row20_store row20_aff row20_ref row20_noSh row20_shr row20_lend row20_take row20_drop setR_noSh
-- laws.toIntSS
def k_laws_toIntSS : K := dc 0x40960560c0081004341342e4c00430400305454004bf153ce0475130601534800424914011d110040000f1003830090411400060cb08b2883442890c9000204004040000dc40c01040c00c7005100e410410000c704718604304305804ea251850c500010100204ea010fc041040
def r_laws_toIntSS : Nat × List RV := (23, [.t 2])
theorem c_laws_toIntSS : codeIs PA 195 r_laws_toIntSS k_laws_toIntSS := by unfold codeIs; kernel_rfl

theorem h_toIntSS (xs : List (List Int)) (hx : wL (wL w0) xs < 2 ^ 31) : CallsF Tryz.prog 195 [.one (.ar false 0 1 (xs.map sIS))] (.one (.ar true 54 1 (xs.map rIS))) := by
  refine Prun c_laws_toIntSS (by simp [r_laws_toIntSS]) (by simp) ?_
  (conv in k_laws_toIntSS => reduce); unfold r_laws_toIntSS
  have hlen := wL_len (wL w0) xs
  have hc : ((xs.length : Int) ≤ 4294967296) := by omega
  simp [hc]
  refine awp_loop (fun n σ => ∃ i : Nat, i ≤ xs.length ∧ n = xs.length - i ∧ σ = ⟨[(0, .one (.ar false 0 1 (xs.map sIS))), (3, .one (.vw 54 1 3 [] 0 xs.length)), (4, aI i)], [(3, ⟨54, 1, part rIS zIS xs i⟩)]⟩) (xs.length) ⟨0, by simp [part_zero, zIS]⟩ ?_
  rintro n σ ⟨i, hi, rfl, rfl⟩
  by_cases h : i < xs.length
  · have hw := wL_get (wL w0) xs i h
    have := part_set (r := rIS) (z := zIS) h
    simp [h, sIS]
    refine callG_F (h_toIntS xs[i] (by omega)) (by simp) ?_
    simp [h, part_get h, rIS, zIS]
    refine ⟨xs.length - (i + 1), by omega, i + 1, by omega, rfl, ?_⟩
    rw [wrapI (by omega) (by omega)]
    simp only [rIS, zIS] at this
    simp [rIS, zIS, this]
  · have : i = xs.length := by omega
    subst this
    simp [part_all]
end
section -- IntSSS_to
attribute [-simp] cS_t cS_f row20_len row20_sc row20_view row20_store row20_aff row20_ref row20_noSh row20_shr row20_lend row20_take row20_drop setR_noSh
-- laws.toIntSSS
def k_laws_toIntSSS : K := dc 0x40960560c0081004341342e4c00430400305454004bf153ce04751305ba854d20010924500474440100003c400e0c02410450001832c22ca20d10a2432400081001010000371030041030031c01440390410400031c11c61813a8043058046aa51850c5000101002046a810fc041040
def r_laws_toIntSSS : Nat × List RV := (23, [.t 2])
theorem c_laws_toIntSSS : codeIs PA 134 r_laws_toIntSSS k_laws_toIntSSS := by unfold codeIs; kernel_rfl

theorem h_toIntSSS (xs : List (List (List Int))) (hx : wL (wL (wL w0)) xs < 2 ^ 31) : CallsF Tryz.prog 134 [.one (.ar false 0 1 (xs.map sISS))] (.one (.ar true 174 1 (xs.map rISS))) := by
  refine Prun c_laws_toIntSSS (by simp [r_laws_toIntSSS]) (by simp) ?_
  (conv in k_laws_toIntSSS => reduce); unfold r_laws_toIntSSS
  have hlen := wL_len (wL (wL w0)) xs
  have hc : ((xs.length : Int) ≤ 4294967296) := by omega
  simp [hc]
  refine awp_loop (fun n σ => ∃ i : Nat, i ≤ xs.length ∧ n = xs.length - i ∧ σ = ⟨[(0, .one (.ar false 0 1 (xs.map sISS))), (3, .one (.vw 174 1 3 [] 0 xs.length)), (4, aI i)], [(3, ⟨174, 1, part rISS zISS xs i⟩)]⟩) (xs.length) ⟨0, by simp [part_zero, zISS]⟩ ?_
  rintro n σ ⟨i, hi, rfl, rfl⟩
  by_cases h : i < xs.length
  · have hw := wL_get (wL (wL w0)) xs i h
    have := part_set (r := rISS) (z := zISS) h
    simp [h, sISS]
    refine callG_F (h_toIntSS xs[i] (by omega)) (by simp) ?_
    simp [h, part_get h, rISS, zISS]
    refine ⟨xs.length - (i + 1), by omega, i + 1, by omega, rfl, ?_⟩
    rw [wrapI (by omega) (by omega)]
    simp only [rISS, zISS] at this
    simp [rISS, zISS, this]
  · have : i = xs.length := by omega
    subst this
    simp [part_all]
end
section -- Gram_to1
attribute [-simp] cS_t cS_f row20_len row20_sc row20_view row20_store row20_aff row20_ref row20_noSh row20_shr row20_lend row20_take row20_drop setR_noSh
-- laws.toGram
def k_laws_toGram : K := dc 0x42020012fc2030410820401870012fc1c300618505ea451440010840401850400c11aa0430412294810400811aa043041229481001529202040
def r_laws_toGram : Nat × List RV := (9, [.c 2 1 true])
theorem c_laws_toGram : codeIs PA 90 r_laws_toGram k_laws_toGram := by unfold codeIs; kernel_rfl

theorem h_toGram (a : TGram) (ha : wGram a < 2 ^ 31) : CallsF Tryz.prog 90 [.agg (sGram a)] (.agg (rGram a)) := by
  refine Prun c_laws_toGram (by simp [r_laws_toGram]) (by simp) ?_
  (conv in k_laws_toGram => reduce); unfold r_laws_toGram
  simp only [wGram] at ha
  simp [sGram]
  refine callG_F (h_toIntSSS a.parts (by omega)) (by simp) ?_
  simp [rGram]
end
section -- Gram_to
attribute [-simp] cS_t cS_f row20_len row20_sc row20_view row20_store row20_aff row20_ref row20_noSh row20_shr row20_lend row20_take row20_drop setR_noSh
-- laws.toGramS
def k_laws_toGramS : K := dc 0x40960560c0081004341342e4c00430400305454004bf153ce047513072a054d20410924500474440100003c400e0c02410450001832c22ca20d10a2432400081001010000371030041030031c01440390410400031c11c61811aa043058048a651850c5000101002048a410fc041040
def r_laws_toGramS : Nat × List RV := (23, [.t 2])
theorem c_laws_toGramS : codeIs PA 46 r_laws_toGramS k_laws_toGramS := by unfold codeIs; kernel_rfl

theorem h_toGramS (xs : List TGram) (hx : wL wGram xs < 2 ^ 31) : CallsF Tryz.prog 46 [.one (.ar false 0 1 (xs.map sGram))] (.one (.ar true 112 1 (xs.map rGram))) := by
  refine Prun c_laws_toGramS (by simp [r_laws_toGramS]) (by simp) ?_
  (conv in k_laws_toGramS => reduce); unfold r_laws_toGramS
  have hlen := wL_len wGram xs
  have hc : ((xs.length : Int) ≤ 4294967296) := by omega
  simp [hc]
  refine awp_loop (fun n σ => ∃ i : Nat, i ≤ xs.length ∧ n = xs.length - i ∧ σ = ⟨[(0, .one (.ar false 0 1 (xs.map sGram))), (3, .one (.vw 112 1 3 [] 0 xs.length)), (4, aI i)], [(3, ⟨112, 1, part rGram zGram xs i⟩)]⟩) (xs.length) ⟨0, by simp [part_zero, zGram]⟩ ?_
  rintro n σ ⟨i, hi, rfl, rfl⟩
  by_cases h : i < xs.length
  · have hw := wL_get wGram xs i h
    have := part_set (r := rGram) (z := zGram) h
    simp [h, sGram]
    refine callG_F (h_toGram xs[i] (by omega)) (by simp) ?_
    simp [h, part_get h, rGram, zGram]
    refine ⟨xs.length - (i + 1), by omega, i + 1, by omega, rfl, ?_⟩
    rw [wrapI (by omega) (by omega)]
    simp only [rGram, zGram] at this
    simp [rGram, zGram, this]
  · have : i = xs.length := by omega
    subst this
    simp [part_all]
end
section -- Conf_to1
attribute [-simp] cS_t cS_f row20_len row20_sc row20_view row20_store row20_aff row20_ref row20_noSh row20_shr row20_lend row20_take row20_drop setR_noSh
-- laws.toConf
def k_laws_toConf : K := dc 0x10b08008bf0b0c108208100928004bf0a0c11892018052070010870411850401460012fc1830061440010840401840400c10c10c000008252b4810400810c10c000008252b4810026ac202040
def r_laws_toConf : Nat × List RV := (12, [.c 2 2 true])
theorem c_laws_toConf : codeIs PA 288 r_laws_toConf k_laws_toConf := by unfold codeIs; kernel_rfl

theorem h_toConf (a : TConf) (ha : wConf a < 2 ^ 31) : CallsF Tryz.prog 288 [.agg (sConf a)] (.agg (rConf a)) := by
  refine Prun c_laws_toConf (by simp [r_laws_toConf]) (by simp) ?_
  (conv in k_laws_toConf => reduce); unfold r_laws_toConf
  simp only [wConf] at ha
  simp [sConf]
  refine callG_F (h_toIntS a.row (by omega)) (by simp) ?_
  simp [rConf]
end
section -- Conf_to
attribute [-simp] cS_t cS_f row20_len row20_sc row20_view row20_store row20_aff row20_ref row20_noSh row20_shr row20_lend row20_take row20_drop setR_noSh
-- laws.toConfS
def k_laws_toConfS : K := dc 0x40960560c0081004341342e4c00430400305454008bf153ce087513078ac54d20420924500874440100003c400e0c02410450001832c22ca20d10a2432400081001010000371030041030031c01440390410400031c11c61810c10c00000a0094ae51850c5000101002094ac10fc041040
def r_laws_toConfS : Nat × List RV := (23, [.t 2])
theorem c_laws_toConfS : codeIs PA 242 r_laws_toConfS k_laws_toConfS := by unfold codeIs; kernel_rfl

theorem h_toConfS (xs : List TConf) (hx : wL wConf xs < 2 ^ 31) : CallsF Tryz.prog 242 [.one (.ar false 0 2 (xs.map sConf))] (.one (.ar true 252 2 (xs.map rConf))) := by
  refine Prun c_laws_toConfS (by simp [r_laws_toConfS]) (by simp) ?_
  (conv in k_laws_toConfS => reduce); unfold r_laws_toConfS
  have hlen := wL_len wConf xs
  have hc : ((xs.length : Int) ≤ 4294967296) := by omega
  simp [hc]
  refine awp_loop (fun n σ => ∃ i : Nat, i ≤ xs.length ∧ n = xs.length - i ∧ σ = ⟨[(0, .one (.ar false 0 2 (xs.map sConf))), (3, .one (.vw 252 2 3 [] 0 xs.length)), (4, aI i)], [(3, ⟨252, 2, part rConf zConf xs i⟩)]⟩) (xs.length) ⟨0, by simp [part_zero, zConf]⟩ ?_
  rintro n σ ⟨i, hi, rfl, rfl⟩
  by_cases h : i < xs.length
  · have hw := wL_get wConf xs i h
    have := part_set (r := rConf) (z := zConf) h
    simp [h, sConf]
    refine callG_F (h_toConf xs[i] (by omega)) (by simp) ?_
    simp [h, part_get h, rConf, zConf]
    refine ⟨xs.length - (i + 1), by omega, i + 1, by omega, rfl, ?_⟩
    rw [wrapI (by omega) (by omega)]
    simp only [rConf, zConf] at this
    simp [rConf, zConf, this]
  · have : i = xs.length := by omega
    subst this
    simp [part_all]
end
section -- Line_to1
attribute [-simp] cS_t cS_f row20_len row20_sc row20_view row20_store row20_aff row20_ref row20_noSh row20_shr row20_lend row20_take row20_drop setR_noSh
-- laws.toLine
def k_laws_toLine : K := dc 0x43c20032fc3c304308204034e0012fc38308634c04aac530b00108b04218504024a0012fc2830462480010880411840401870012fc1c300618504aac51440010840401850400c252b04300000252b0430c33aa48104008252b04300000252b0430c33aa481003f2a202040
def r_laws_toLine : Nat × List RV := (16, [.c 2 3 true])
theorem c_laws_toLine : codeIs PA 196 r_laws_toLine k_laws_toLine := by unfold codeIs; kernel_rfl

theorem h_toLine (a : TLine) (ha : wLine a < 2 ^ 31) : CallsF Tryz.prog 196 [.agg (sLine a)] (.agg (rLine a)) := by
  refine Prun c_laws_toLine (by simp [r_laws_toLine]) (by simp) ?_
  (conv in k_laws_toLine => reduce); unfold r_laws_toLine
  simp only [wLine] at ha
  simp [sLine]
  refine callG_F (h_toConfS a.frm (by omega)) (by simp) ?_
  simp
  refine callG_F (h_toConfS a.too (by omega)) (by simp) ?_
  simp [rLine]
end
section -- Line_to
attribute [-simp] cS_t cS_f row20_len row20_sc row20_view row20_store row20_aff row20_ref row20_noSh row20_shr row20_lend row20_take row20_drop setR_noSh
-- laws.toLineS
def k_laws_toLineS : K := dc 0x10258158300204010d04d0b930010c1000c15150032fc54f3831d44c172a1534810c24914031d110040000f1003830090411400060cb08b2883442890c9000204004040000dc40c01040c00c7005100e410410000c7047186094ac10c0000094ac10c34280ceaa51850c50001010020cea810fc041040
def r_laws_toLineS : Nat × List RV := (23, [.t 2])
theorem c_laws_toLineS : codeIs PA 135 r_laws_toLineS k_laws_toLineS := by unfold codeIs; kernel_rfl

theorem h_toLineS (xs : List TLine) (hx : wL wLine xs < 2 ^ 31) : CallsF Tryz.prog 135 [.one (.ar false 0 3 (xs.map sLine))] (.one (.ar true 182 3 (xs.map rLine))) := by
  refine Prun c_laws_toLineS (by simp [r_laws_toLineS]) (by simp) ?_
  (conv in k_laws_toLineS => reduce); unfold r_laws_toLineS
  have hlen := wL_len wLine xs
  have hc : ((xs.length : Int) ≤ 4294967296) := by omega
  simp [hc]
  refine awp_loop (fun n σ => ∃ i : Nat, i ≤ xs.length ∧ n = xs.length - i ∧ σ = ⟨[(0, .one (.ar false 0 3 (xs.map sLine))), (3, .one (.vw 182 3 3 [] 0 xs.length)), (4, aI i)], [(3, ⟨182, 3, part rLine zLine xs i⟩)]⟩) (xs.length) ⟨0, by simp [part_zero, zLine]⟩ ?_
  rintro n σ ⟨i, hi, rfl, rfl⟩
  by_cases h : i < xs.length
  · have hw := wL_get wLine xs i h
    have := part_set (r := rLine) (z := zLine) h
    simp [h, sLine]
    refine callG_F (h_toLine xs[i] (by omega)) (by simp) ?_
    simp [h, part_get h, rLine, zLine]
    refine ⟨xs.length - (i + 1), by omega, i + 1, by omega, rfl, ?_⟩
    rw [wrapI (by omega) (by omega)]
    simp only [rLine, zLine] at this
    simp [rLine, zLine, this]
  · have : i = xs.length := by omega
    subst this
    simp [part_all]
end
section -- Store_to1
attribute [-simp] cS_t cS_f row20_len row20_sc row20_view row20_store row20_aff row20_ref row20_noSh row20_shr row20_lend row20_take row20_drop setR_noSh
-- laws.toStore
def k_laws_toStore : K := dc 0x42c20022fc2c304208204024a0012fc28304624805fa452070010870411850401460012fc1830061440010840401840400c33aa04300000208fa520410020cea810c00000823e9481002629202040
def r_laws_toStore : Nat × List RV := (12, [.c 2 2 true])
theorem c_laws_toStore : codeIs PA 91 r_laws_toStore k_laws_toStore := by unfold codeIs; kernel_rfl

theorem h_toStore (a : TStore) (ha : wStore a < 2 ^ 31) : CallsF Tryz.prog 91 [.agg (sStore a)] (.agg (rStore a)) := by
  refine Prun c_laws_toStore (by simp [r_laws_toStore]) (by simp) ?_
  (conv in k_laws_toStore => reduce); unfold r_laws_toStore
  simp only [wStore] at ha
  simp [sStore]
  refine callG_F (h_toLineS a.lines (by omega)) (by simp) ?_
  simp [rStore]
end
section -- Store_to
attribute [-simp] cS_t cS_f row20_len row20_sc row20_view row20_store row20_aff row20_ref row20_noSh row20_shr row20_lend row20_take row20_drop setR_noSh
-- laws.toStoreS
def k_laws_toStoreS : K := dc 0x10258158300204010d04d0b930010c1000c15150022fc54f3821d44c1ce81534810824914021d110040000f1003830090411400060cb08b2883442890c9000204004040000dc40c01040c00c7005100e410410000c70471860cea810c00000a008fa651850c500010100208fa410fc041040
def r_laws_toStoreS : Nat × List RV := (23, [.t 2])
theorem c_laws_toStoreS : codeIs PA 47 r_laws_toStoreS k_laws_toStoreS := by unfold codeIs; kernel_rfl

theorem h_toStoreS (xs : List TStore) (hx : wL wStore xs < 2 ^ 31) : CallsF Tryz.prog 47 [.one (.ar false 0 2 (xs.map sStore))] (.one (.ar true 119 2 (xs.map rStore))) := by
  refine Prun c_laws_toStoreS (by simp [r_laws_toStoreS]) (by simp) ?_
  (conv in k_laws_toStoreS => reduce); unfold r_laws_toStoreS
  have hlen := wL_len wStore xs
  have hc : ((xs.length : Int) ≤ 4294967296) := by omega
  simp [hc]
  refine awp_loop (fun n σ => ∃ i : Nat, i ≤ xs.length ∧ n = xs.length - i ∧ σ = ⟨[(0, .one (.ar false 0 2 (xs.map sStore))), (3, .one (.vw 119 2 3 [] 0 xs.length)), (4, aI i)], [(3, ⟨119, 2, part rStore zStore xs i⟩)]⟩) (xs.length) ⟨0, by simp [part_zero, zStore]⟩ ?_
  rintro n σ ⟨i, hi, rfl, rfl⟩
  by_cases h : i < xs.length
  · have hw := wL_get wStore xs i h
    have := part_set (r := rStore) (z := zStore) h
    simp [h, sStore]
    refine callG_F (h_toStore xs[i] (by omega)) (by simp) ?_
    simp [h, part_get h, rStore, zStore]
    refine ⟨xs.length - (i + 1), by omega, i + 1, by omega, rfl, ?_⟩
    rw [wrapI (by omega) (by omega)]
    simp only [rStore, zStore] at this
    simp [rStore, zStore, this]
  · have : i = xs.length := by omega
    subst this
    simp [part_all]
end
section -- Err_to1
attribute [-simp] cS_t cS_f row20_len row20_sc row20_view row20_store row20_aff row20_ref row20_noSh row20_shr row20_lend row20_take row20_drop setR_noSh
-- laws.toErr
def k_laws_toErr : K := dc 0x43420032fc3430430820402cc0012fc3030862ca00108a0421840402090012fc2430462070010870411840401460012fc1830061440010840401840400c00000000000000c37ab4810400800000000000000c37ab481003f2c202040
def r_laws_toErr : Nat × List RV := (14, [.c 2 3 true])
theorem c_laws_toErr : codeIs PA 323 r_laws_toErr k_laws_toErr := by unfold codeIs; kernel_rfl

theorem h_toErr (a : TErr) (ha : wErr a < 2 ^ 31) : CallsF Tryz.prog 323 [.agg (sErr a)] (.agg (rErr a)) := by
  refine Prun c_laws_toErr (by simp [r_laws_toErr]) (by simp) ?_
  (conv in k_laws_toErr => reduce); unfold r_laws_toErr
  simp only [wErr] at ha
  simp [sErr, rErr]
end
section -- Err_to
attribute [-simp] cS_t cS_f row20_len row20_sc row20_view row20_store row20_aff row20_ref row20_noSh row20_shr row20_lend row20_take row20_drop setR_noSh
-- laws.toErrS
def k_laws_toErrS : K := dc 0x40960560c0081004341342e4c0043040030545400cbf153ce0c751305bb054d20430924500c74440100003c400e0c02410450001832c22ca20d10a2432400081001010000371030041030031c01440390410400031c11c61800000000000000d80deae51850c50001010020deac10fc041040
def r_laws_toErrS : Nat × List RV := (23, [.t 2])
theorem c_laws_toErrS : codeIs PA 291 r_laws_toErrS k_laws_toErrS := by unfold codeIs; kernel_rfl

theorem h_toErrS (xs : List TErr) (hx : wL wErr xs < 2 ^ 31) : CallsF Tryz.prog 291 [.one (.ar false 0 3 (xs.map sErr))] (.one (.ar true 262 3 (xs.map rErr))) := by
  refine Prun c_laws_toErrS (by simp [r_laws_toErrS]) (by simp) ?_
  (conv in k_laws_toErrS => reduce); unfold r_laws_toErrS
  have hlen := wL_len wErr xs
  have hc : ((xs.length : Int) ≤ 4294967296) := by omega
  simp [hc]
  refine awp_loop (fun n σ => ∃ i : Nat, i ≤ xs.length ∧ n = xs.length - i ∧ σ = ⟨[(0, .one (.ar false 0 3 (xs.map sErr))), (3, .one (.vw 262 3 3 [] 0 xs.length)), (4, aI i)], [(3, ⟨262, 3, part rErr zErr xs i⟩)]⟩) (xs.length) ⟨0, by simp [part_zero, zErr]⟩ ?_
  rintro n σ ⟨i, hi, rfl, rfl⟩
  by_cases h : i < xs.length
  · have hw := wL_get wErr xs i h
    have := part_set (r := rErr) (z := zErr) h
    simp [h, sErr]
    refine callG_F (h_toErr xs[i] (by omega)) (by simp) ?_
    simp [h, part_get h, rErr, zErr]
    refine ⟨xs.length - (i + 1), by omega, i + 1, by omega, rfl, ?_⟩
    rw [wrapI (by omega) (by omega)]
    simp only [rErr, zErr] at this
    simp [rErr, zErr, this]
  · have : i = xs.length := by omega
    subst this
    simp [part_all]
end
section -- Slot_to1
attribute [-simp] cS_t cS_f row20_len row20_sc row20_view row20_store row20_aff row20_ref row20_noSh row20_shr row20_lend row20_take row20_drop setR_noSh
-- laws.toSlot
def k_laws_toSlot : K := dc 0x42820022fc2830420820402090012fc2430462070010870411840401460012fc1830061440010840401840400c00000000020b2a52041002000000000082ca9481002e6c202040
def r_laws_toSlot : Nat × List RV := (11, [.c 2 2 true])
theorem c_laws_toSlot : codeIs PA 321 r_laws_toSlot k_laws_toSlot := by unfold codeIs; kernel_rfl

theorem h_toSlot (a : TSlot) (ha : wSlot a < 2 ^ 31) : CallsF Tryz.prog 321 [.agg (sSlot a)] (.agg (rSlot a)) := by
  refine Prun c_laws_toSlot (by simp [r_laws_toSlot]) (by simp) ?_
  (conv in k_laws_toSlot => reduce); unfold r_laws_toSlot
  simp only [wSlot] at ha
  simp [sSlot, rSlot]
end
section -- Slot_to
attribute [-simp] cS_t cS_f row20_len row20_sc row20_view row20_store row20_aff row20_ref row20_noSh row20_shr row20_lend row20_take row20_drop setR_noSh
-- laws.toSlotS
def k_laws_toSlotS : K := dc 0x10258158300204010d04d0b930010c1000c15150022fc54f3821d44c166c1534810824914021d110040000f1003830090411400060cb08b2883442890c9000204004040000dc40c01040c00c7005100e410410000c70471860000000000900b2a651850c50001010020b2a410fc041040
def r_laws_toSlotS : Nat × List RV := (23, [.t 2])
theorem c_laws_toSlotS : codeIs PA 289 r_laws_toSlotS k_laws_toSlotS := by unfold codeIs; kernel_rfl

theorem h_toSlotS (xs : List TSlot) (hx : wL wSlot xs < 2 ^ 31) : CallsF Tryz.prog 289 [.one (.ar false 0 2 (xs.map sSlot))] (.one (.ar true 154 2 (xs.map rSlot))) := by
  refine Prun c_laws_toSlotS (by simp [r_laws_toSlotS]) (by simp) ?_
  (conv in k_laws_toSlotS => reduce); unfold r_laws_toSlotS
  have hlen := wL_len wSlot xs
  have hc : ((xs.length : Int) ≤ 4294967296) := by omega
  simp [hc]
  refine awp_loop (fun n σ => ∃ i : Nat, i ≤ xs.length ∧ n = xs.length - i ∧ σ = ⟨[(0, .one (.ar false 0 2 (xs.map sSlot))), (3, .one (.vw 154 2 3 [] 0 xs.length)), (4, aI i)], [(3, ⟨154, 2, part rSlot zSlot xs i⟩)]⟩) (xs.length) ⟨0, by simp [part_zero, zSlot]⟩ ?_
  rintro n σ ⟨i, hi, rfl, rfl⟩
  by_cases h : i < xs.length
  · have hw := wL_get wSlot xs i h
    have := part_set (r := rSlot) (z := zSlot) h
    simp [h, sSlot]
    refine callG_F (h_toSlot xs[i] (by omega)) (by simp) ?_
    simp [h, part_get h, rSlot, zSlot]
    refine ⟨xs.length - (i + 1), by omega, i + 1, by omega, rfl, ?_⟩
    rw [wrapI (by omega) (by omega)]
    simp only [rSlot, zSlot] at this
    simp [rSlot, zSlot, this]
  · have : i = xs.length := by omega
    subst this
    simp [part_all]
end
section -- Node_to1
attribute [-simp] cS_t cS_f row20_len row20_sc row20_view row20_store row20_aff row20_ref row20_noSh row20_shr row20_lend row20_take row20_drop setR_noSh
-- laws.toNode
def k_laws_toNode : K := dc 0x11408014bf140c11420810124c004bf130c419244180545000109004418504038f0012fc3c30c638d00108d0431840402cc0012fc3030862ca00108a0421840402090012fc2430462070010870411840401460012fc1830061440010840401840400c10c10c0000000000000000005160ad204100204304300000000000000000014582b4810056ad202040
def r_laws_toNode : Nat × List RV := (21, [.c 2 5 true])
theorem c_laws_toNode : codeIs PA 344 r_laws_toNode k_laws_toNode := by unfold codeIs; kernel_rfl

theorem h_toNode (a : TNode) (ha : wNode a < 2 ^ 31) : CallsF Tryz.prog 344 [.agg (sNode a)] (.agg (rNode a)) := by
  refine Prun c_laws_toNode (by simp [r_laws_toNode]) (by simp) ?_
  (conv in k_laws_toNode => reduce); unfold r_laws_toNode
  simp only [wNode] at ha
  simp [sNode]
  refine callG_F (h_toIntS a.kids (by omega)) (by simp) ?_
  simp [rNode]
end
section -- Node_to
attribute [-simp] cS_t cS_f row20_len row20_sc row20_view row20_store row20_aff row20_ref row20_noSh row20_shr row20_lend row20_take row20_drop setR_noSh
-- laws.toNodeS
def k_laws_toNodeS : K := dc 0x40960560c0081004341342e4c00430400305454014bf153ce147513070b054d20450924501474440100003c400e0c02410450001832c22ca20d10a2432400081001010000371030041030031c01440390410400031c11c61810c10c0000000000000000005428160ae51850c5000101002160ac10fc041040
def r_laws_toNodeS : Nat × List RV := (23, [.t 2])
theorem c_laws_toNodeS : codeIs PA 322 r_laws_toNodeS k_laws_toNodeS := by unfold codeIs; kernel_rfl

theorem h_toNodeS (xs : List TNode) (hx : wL wNode xs < 2 ^ 31) : CallsF Tryz.prog 322 [.one (.ar false 0 5 (xs.map sNode))] (.one (.ar true 264 5 (xs.map rNode))) := by
  refine Prun c_laws_toNodeS (by simp [r_laws_toNodeS]) (by simp) ?_
  (conv in k_laws_toNodeS => reduce); unfold r_laws_toNodeS
  have hlen := wL_len wNode xs
  have hc : ((xs.length : Int) ≤ 4294967296) := by omega
  simp [hc]
  refine awp_loop (fun n σ => ∃ i : Nat, i ≤ xs.length ∧ n = xs.length - i ∧ σ = ⟨[(0, .one (.ar false 0 5 (xs.map sNode))), (3, .one (.vw 264 5 3 [] 0 xs.length)), (4, aI i)], [(3, ⟨264, 5, part rNode zNode xs i⟩)]⟩) (xs.length) ⟨0, by simp [part_zero, zNode]⟩ ?_
  rintro n σ ⟨i, hi, rfl, rfl⟩
  by_cases h : i < xs.length
  · have hw := wL_get wNode xs i h
    have := part_set (r := rNode) (z := zNode) h
    simp [h, sNode]
    refine callG_F (h_toNode xs[i] (by omega)) (by simp) ?_
    simp [h, part_get h, rNode, zNode]
    refine ⟨xs.length - (i + 1), by omega, i + 1, by omega, rfl, ?_⟩
    rw [wrapI (by omega) (by omega)]
    simp only [rNode, zNode] at this
    simp [rNode, zNode, this]
  · have : i = xs.length := by omega
    subst this
    simp [part_all]
end
section -- Tree_to1
attribute [-simp] cS_t cS_f row20_len row20_sc row20_view row20_store row20_aff row20_ref row20_noSh row20_shr row20_lend row20_take row20_drop setR_noSh
-- laws.toTree
def k_laws_toTree : K := dc 0x42020012fc2030410820401870012fc1c300618505ab051440010840401850400c582b043041ee848104008582b043041ee848100106b202040
def r_laws_toTree : Nat × List RV := (9, [.c 2 1 true])
theorem c_laws_toTree : codeIs PA 290 r_laws_toTree k_laws_toTree := by unfold codeIs; kernel_rfl

theorem h_toTree (a : TTree) (ha : wTree a < 2 ^ 31) : CallsF Tryz.prog 290 [.agg (sTree a)] (.agg (rTree a)) := by
  refine Prun c_laws_toTree (by simp [r_laws_toTree]) (by simp) ?_
  (conv in k_laws_toTree => reduce); unfold r_laws_toTree
  simp only [wTree] at ha
  simp [sTree]
  refine callG_F (h_toNodeS a.nodes (by omega)) (by simp) ?_
  simp [rTree]
end
section -- Run_to1
attribute [-simp] cS_t cS_f row20_len row20_sc row20_view row20_store row20_aff row20_ref row20_noSh row20_shr row20_lend row20_take row20_drop setR_noSh
-- laws.toRun
def k_laws_toRun : K := dc 0x47020072fc70304708204069b0012fc6c318669907bac56580010980461850405970012fc5c314659507aac55540410940451850404930012fc4c3106491079ac545000109004418504038f0012fc3c30c638d00108d0431840402cc0012fc3030862ca00108a0421840402090012fc2430462070010870411840401460012fc1830061440010840401840400c37ab043160ac10c2ca90430000000000000000001c7fa84810400837ab043160ac10c2ca90430000000000000000001c7fa848100712b202040
def r_laws_toRun : Nat × List RV := (29, [.c 2 7 true])
theorem c_laws_toRun : codeIs PA 243 r_laws_toRun k_laws_toRun := by unfold codeIs; kernel_rfl

theorem h_toRun (a : TRun) (ha : wRun a < 2 ^ 31) : CallsF Tryz.prog 243 [.agg (sRun a)] (.agg (rRun a)) := by
  refine Prun c_laws_toRun (by simp [r_laws_toRun]) (by simp) ?_
  (conv in k_laws_toRun => reduce); unfold r_laws_toRun
  simp only [wRun] at ha
  simp [sRun]
  refine callG_F (h_toSlotS a.slots (by omega)) (by simp) ?_
  simp
  refine callG_F (h_toTree a.tree (by omega)) (by simp [rTree]) ?_
  simp [rTree]
  refine callG_F (h_toErrS a.errs (by omega)) (by simp) ?_
  simp [rRun]
end
section -- Job_to1
attribute [-simp] cS_t cS_f row20_len row20_sc row20_view row20_store row20_aff row20_ref row20_noSh row20_shr row20_lend row20_take row20_drop setR_noSh
-- laws.toJob
def k_laws_toJob : K := dc 0x11208028bf120c12820810104401cbf110c31903c12eb14f3811c23810c614100c34004bf0d0c218c2c18052ca00108a0421850402090012fc2430462070010870411840401460012fc1830061440010840401840400c37ab043160ac10c2ca904300000000000000000004304300000000028a0694810400837ab043160ac10c2ca904300000000000000000004304300000000028a06948100a1ab202040
def r_laws_toJob : Nat × List RV := (19, [.c 2 10 true])
theorem c_laws_toJob : codeIs PA 197 r_laws_toJob k_laws_toJob := by unfold codeIs; kernel_rfl

theorem h_toJob (a : TJob) (ha : wJob a < 2 ^ 31) : CallsF Tryz.prog 197 [.agg (sJob a)] (.agg (rJob a)) := by
  refine Prun c_laws_toJob (by simp [r_laws_toJob]) (by simp) ?_
  (conv in k_laws_toJob => reduce); unfold r_laws_toJob
  simp only [wJob] at ha
  simp [sJob]
  refine callG_F (h_toIntS a.input (by omega)) (by simp) ?_
  simp
  refine callG_F (h_toRun a.run (by omega)) (by simp [rRun]) ?_
  simp [rJob, rRun]
end
section -- Job_to
attribute [-simp] cS_t cS_f row20_len row20_sc row20_view row20_store row20_aff row20_ref row20_noSh row20_shr row20_lend row20_take row20_drop setR_noSh
-- laws.toJobS
def k_laws_toJobS : K := dc 0x10258158300204010d04d0b930010c1000c151500a2fc54f38a1d44c176a15348128249140a1d110040000f1003830090411400060cb08b2883442890c9000204004040000dc40c01040c00c7005100e410410000c70471860deac10c582b0430b2a410c00000000000000000010c10c000000000aa29281a651850c5000101002281a410fc041040
def r_laws_toJobS : Nat × List RV := (23, [.t 2])
theorem c_laws_toJobS : codeIs PA 136 r_laws_toJobS k_laws_toJobS := by unfold codeIs; kernel_rfl

theorem h_toJobS (xs : List TJob) (hx : wL wJob xs < 2 ^ 31) : CallsF Tryz.prog 136 [.one (.ar false 0 10 (xs.map sJob))] (.one (.ar true 105 10 (xs.map rJob))) := by
  refine Prun c_laws_toJobS (by simp [r_laws_toJobS]) (by simp) ?_
  (conv in k_laws_toJobS => reduce); unfold r_laws_toJobS
  have hlen := wL_len wJob xs
  have hc : ((xs.length : Int) ≤ 4294967296) := by omega
  simp [hc]
  refine awp_loop (fun n σ => ∃ i : Nat, i ≤ xs.length ∧ n = xs.length - i ∧ σ = ⟨[(0, .one (.ar false 0 10 (xs.map sJob))), (3, .one (.vw 105 10 3 [] 0 xs.length)), (4, aI i)], [(3, ⟨105, 10, part rJob zJob xs i⟩)]⟩) (xs.length) ⟨0, by simp [part_zero, zJob]⟩ ?_
  rintro n σ ⟨i, hi, rfl, rfl⟩
  by_cases h : i < xs.length
  · have hw := wL_get wJob xs i h
    have := part_set (r := rJob) (z := zJob) h
    simp [h, sJob]
    refine callG_F (h_toJob xs[i] (by omega)) (by simp) ?_
    simp [h, part_get h, rJob, zJob]
    refine ⟨xs.length - (i + 1), by omega, i + 1, by omega, rfl, ?_⟩
    rw [wrapI (by omega) (by omega)]
    simp only [rJob, zJob] at this
    simp [rJob, zJob, this]
  · have : i = xs.length := by omega
    subst this
    simp [part_all]
end
section -- Outcome_to1
attribute [-simp] cS_t cS_f row20_len row20_sc row20_view row20_store row20_aff row20_ref row20_noSh row20_shr row20_lend row20_take row20_drop setR_noSh
-- laws.toOutcome
def k_laws_toOutcome : K :=
 .seq (
  .reg none [⟨(some 1), none, .box 240 3 (.t 0)⟩,
    ⟨(some 2), none, .alc 29 3 [(.int .i64 (0)), (.int .i64 (0)), (.str ⟨#[]⟩)]⟩]) (
 .seq (
  .reg none [⟨(some 3), none, .alc 29 3 [(.int .i64 (0)), (.int .i64 (0)), (.str ⟨#[]⟩)]⟩]) (
 .seq (
  .reg none [⟨(some 4), none, .fad 0 (.t 1)⟩,
    ⟨(some 5), none, .ld 1 false (.t 4)⟩,
    ⟨(some 6), none, .fad 0 (.t 3)⟩,
    ⟨none, none, .st 1 false (.t 6) (.t 5)⟩]) (
 .seq (
  .reg none [⟨(some 7), none, .fad 1 (.t 1)⟩,
    ⟨(some 8), none, .ld 1 false (.t 7)⟩,
    ⟨(some 9), none, .fad 1 (.t 3)⟩,
    ⟨none, none, .st 1 false (.t 9) (.t 8)⟩]) (
 .seq (
  .reg none [⟨(some 10), none, .fad 2 (.t 1)⟩,
    ⟨(some 11), none, .ld 1 false (.t 10)⟩,
    ⟨(some 12), none, .fad 2 (.t 3)⟩,
    ⟨none, none, .st 1 false (.t 12) (.t 11)⟩]) (
 .seq (
  .reg none [⟨(some 13), none, .ld 3 true (.t 3)⟩,
    ⟨none, none, .st 3 false (.t 2) (.t 13)⟩]) (
 .ret))))))
def r_laws_toOutcome : Nat × List RV := (14, [.c 2 3 true])
theorem c_laws_toOutcome : codeIs PA 198 r_laws_toOutcome k_laws_toOutcome := by unfold codeIs; kernel_rfl

theorem h_toOutcome (a : TOutcome) (ha : wOutcome a < 2 ^ 31) : CallsF Tryz.prog 198 [.agg (sOutcome a)] (.agg (rOutcome a)) := by
  refine Prun c_laws_toOutcome (by simp [r_laws_toOutcome]) (by simp) ?_
  unfold k_laws_toOutcome r_laws_toOutcome
  simp only [wOutcome] at ha
  simp [sOutcome, rOutcome]
end
section -- Outcome_to
attribute [-simp] cS_t cS_f row20_len row20_sc row20_view row20_store row20_aff row20_ref row20_noSh row20_shr row20_lend row20_take row20_drop setR_noSh
-- laws.toOutcomeS
def k_laws_toOutcomeS : K :=
 .seq (
  .reg none [⟨(some 2), none, .asn (.c (.ar true 29 3 []))⟩]) (
 .seq (
  .reg none [⟨(some 5), none, .mv (.t 0)⟩,
    ⟨(some 6), none, .len (.t 5)⟩,
    ⟨(some 7), none, .mks 29 3 32 [(.int .i64 (0)), (.int .i64 (0)), (.str ⟨#[]⟩)] (.t 6) (.t 6)⟩,
    ⟨(some 3), none, .asn (.t 7)⟩]) (
 .seq (
  .seq (
   .reg none [⟨(some 4), none, .asn (.c (.int .i64 (0)))⟩]) (
  .block 0 (
   .loop (some ([0, 3, 4], [0, 3, 4, 1000])) (
    .seq (
     .seq (
      .reg none [⟨(some 8), none, .mv (.t 4)⟩,
        ⟨(some 9), none, .mv (.t 0)⟩,
        ⟨(some 10), none, .len (.t 9)⟩,
        ⟨(some 11), none, .bin .lss (.t 8) (.t 10)⟩]) (
     .cond (.t 11) (
      .skip) (
      .exit 0))) (
    .seq (
     .block 1 (
      .reg none [⟨(some 14), none, .mv (.t 3)⟩,
        ⟨(some 15), none, .mv (.t 4)⟩,
        ⟨(some 16), none, .mv (.t 0)⟩,
        ⟨(some 17), none, .mv (.t 4)⟩,
        ⟨(some 18), none, .iad 3 (.t 16) (.t 17)⟩,
        ⟨(some 19), none, .ld 3 true (.t 18)⟩,
        ⟨(some 20), none, .call 198 [(.t 19)]⟩,
        ⟨(some 21), none, .iad 3 (.t 14) (.t 15)⟩,
        ⟨none, none, .st 3 false (.t 21) (.t 20)⟩])) (
    .reg none [⟨(some 12), none, .mv (.t 4)⟩,
      ⟨(some 13), none, .bin .add (.t 12) (.c (.int .i64 (1)))⟩,
      ⟨(some 4), none, .asn (.t 13)⟩])))))) (
 .seq (
  .reg none [⟨(some 22), none, .mv (.t 3)⟩,
    ⟨(some 2), none, .asn (.t 22)⟩]) (
 .ret))))
def r_laws_toOutcomeS : Nat × List RV := (23, [.t 2])
theorem c_laws_toOutcomeS : codeIs PA 137 r_laws_toOutcomeS k_laws_toOutcomeS := by unfold codeIs; kernel_rfl

theorem h_toOutcomeS (xs : List TOutcome) (hx : wL wOutcome xs < 2 ^ 31) : CallsF Tryz.prog 137 [.one (.ar false 0 3 (xs.map sOutcome))] (.one (.ar true 29 3 (xs.map rOutcome))) := by
  refine Prun c_laws_toOutcomeS (by simp [r_laws_toOutcomeS]) (by simp) ?_
  unfold k_laws_toOutcomeS r_laws_toOutcomeS
  have hlen := wL_len wOutcome xs
  have hc : ((xs.length : Int) ≤ 4294967296) := by omega
  simp [hc]
  refine awp_loop (fun n σ => ∃ i : Nat, i ≤ xs.length ∧ n = xs.length - i ∧ σ = ⟨[(0, .one (.ar false 0 3 (xs.map sOutcome))), (3, .one (.vw 29 3 3 [] 0 xs.length)), (4, aI i)], [(3, ⟨29, 3, part rOutcome zOutcome xs i⟩)]⟩) (xs.length) ⟨0, by simp [part_zero, zOutcome]⟩ ?_
  rintro n σ ⟨i, hi, rfl, rfl⟩
  by_cases h : i < xs.length
  · have hw := wL_get wOutcome xs i h
    have := part_set (r := rOutcome) (z := zOutcome) h
    simp [h, sOutcome]
    refine callG_F (h_toOutcome xs[i] (by omega)) (by simp) ?_
    simp [h, part_get h, rOutcome, zOutcome]
    refine ⟨xs.length - (i + 1), by omega, i + 1, by omega, rfl, ?_⟩
    rw [wrapI (by omega) (by omega)]
    simp only [rOutcome, zOutcome] at this
    simp [rOutcome, zOutcome, this]
  · have : i = xs.length := by omega
    subst this
    simp [part_all]
end
section -- Tenant_to1
attribute [-simp] cS_t cS_f row20_len row20_sc row20_view row20_store row20_aff row20_ref row20_noSh row20_shr row20_lend row20_take row20_drop setR_noSh
-- laws.toTenant
def k_laws_toTenant : K := dc 0x490200a2fc90304a0820408a30012fc8c32468a1061a458600010a004918504079f0012fc7c320679d060a4575c00109c04818504069b0012fc6c31c66990010990471840405d80012fc6031865d60010960461840405150012fc5431465130010930451840404520012fc48310645000109004418404038f0012fc3c30c638d00108d0431840402cc0012fc3030862ca00108a0421840402090012fc2430462070010870411840401460012fc1830061440010840401840400c37410ca06904300000000000000000000000000000000000028a7e84810400837410ca06904300000000000000000000000000000000000028a7e848100a769202040
def r_laws_toTenant : Nat × List RV := (37, [.c 2 10 true])
theorem c_laws_toTenant : codeIs PA 92 r_laws_toTenant k_laws_toTenant := by unfold codeIs; kernel_rfl

theorem h_toTenant (a : TTenant) (ha : wTenant a < 2 ^ 31) : CallsF Tryz.prog 92 [.agg (sTenant a)] (.agg (rTenant a)) := by
  refine Prun c_laws_toTenant (by simp [r_laws_toTenant]) (by simp) ?_
  (conv in k_laws_toTenant => reduce); unfold r_laws_toTenant
  simp only [wTenant] at ha
  simp [sTenant]
  refine callG_F (h_toJobS a.queue (by omega)) (by simp) ?_
  simp
  refine callG_F (h_toOutcomeS a.out (by omega)) (by simp) ?_
  simp [rTenant]
end
section -- Tenant_to
attribute [-simp] cS_t cS_f row20_len row20_sc row20_view row20_store row20_aff row20_ref row20_noSh row20_shr row20_lend row20_take row20_drop setR_noSh
-- laws.toTenantS
def k_laws_toTenantS : K := dc 0x10258158300204010d04d0b930010c1000c151500a2fc54f38a1d44c1d2815348128249140a1d110040000f1003830090411400060cb08b2883442890c9000204004040000dc40c01040c00c7005100e410410000c70471860dd043281a410c000000000000000000000000000000000000a22929fa251850c500010100229fa010fc041040
def r_laws_toTenantS : Nat × List RV := (23, [.t 2])
theorem c_laws_toTenantS : codeIs PA 48 r_laws_toTenantS k_laws_toTenantS := by unfold codeIs; kernel_rfl

theorem h_toTenantS (xs : List TTenant) (hx : wL wTenant xs < 2 ^ 31) : CallsF Tryz.prog 48 [.one (.ar false 0 10 (xs.map sTenant))] (.one (.ar true 71 10 (xs.map rTenant))) := by
  refine Prun c_laws_toTenantS (by simp [r_laws_toTenantS]) (by simp) ?_
  (conv in k_laws_toTenantS => reduce); unfold r_laws_toTenantS
  have hlen := wL_len wTenant xs
  have hc : ((xs.length : Int) ≤ 4294967296) := by omega
  simp [hc]
  refine awp_loop (fun n σ => ∃ i : Nat, i ≤ xs.length ∧ n = xs.length - i ∧ σ = ⟨[(0, .one (.ar false 0 10 (xs.map sTenant))), (3, .one (.vw 71 10 3 [] 0 xs.length)), (4, aI i)], [(3, ⟨71, 10, part rTenant zTenant xs i⟩)]⟩) (xs.length) ⟨0, by simp [part_zero, zTenant]⟩ ?_
  rintro n σ ⟨i, hi, rfl, rfl⟩
  by_cases h : i < xs.length
  · have hw := wL_get wTenant xs i h
    have := part_set (r := rTenant) (z := zTenant) h
    simp [h, sTenant]
    refine callG_F (h_toTenant xs[i] (by omega)) (by simp) ?_
    simp [h, part_get h, rTenant, zTenant]
    refine ⟨xs.length - (i + 1), by omega, i + 1, by omega, rfl, ?_⟩
    rw [wrapI (by omega) (by omega)]
    simp only [rTenant, zTenant] at this
    simp [rTenant, zTenant, this]
  · have : i = xs.length := by omega
    subst this
    simp [part_all]
end
section -- House_to1
attribute [-simp] cS_t cS_f row20_len row20_sc row20_view row20_store row20_aff row20_ref row20_noSh row20_shr row20_lend row20_take row20_drop setR_noSh
-- laws.toHouse
def k_laws_toHouse : K := dc 0x11608014bf160c114208101454004bf150c41944c122815348004248110614101044004bf110c31903c11e814f3800423810c614100c34004bf0d0c218c2c11a814b28004228108614100824004bf090c11881c00421c104610100518004bf060c018510004210100610100329fa010c23e9043048a410c000000000516448104008a7e804308fa410c122904300000000014591204015a202040
def r_laws_toHouse : Nat × List RV := (23, [.c 2 5 true])
theorem c_laws_toHouse : codeIs PA 14 r_laws_toHouse k_laws_toHouse := by unfold codeIs; kernel_rfl

theorem h_toHouse (a : THouse) (ha : wHouse a < 2 ^ 31) : CallsF Tryz.prog 14 [.agg (sHouse a)] (.agg (rHouse a)) := by
  refine Prun c_laws_toHouse (by simp [r_laws_toHouse]) (by simp) ?_
  (conv in k_laws_toHouse => reduce); unfold r_laws_toHouse
  simp only [wHouse] at ha
  simp [sHouse]
  refine callG_F (h_toGramS a.grams (by omega)) (by simp) ?_
  simp
  refine callG_F (h_toStoreS a.stores (by omega)) (by simp) ?_
  simp
  refine callG_F (h_toTenantS a.tenants (by omega)) (by simp) ?_
  simp [rHouse]
end
section -- L_Whose
-- laws.FnExactWhose
def k_laws_FnExactWhose : K := dc 0x40bb0410400c40ba0410406826992596160911585c13855c10450961411421420410020c0240003102e810410150955133045040131800c10001920524414c54450450830404050052fc14a7e804308fa410c122904300000000014591240f04e14f04114210100438138d05214d3013853010450840400c40bb0410402c22c0e4a3442830020400032412481c230520300704114210100320000013fe41041002e8104015a202040
def r_laws_FnExactWhose : Nat × List RV := (27, [.t 2])
theorem c_laws_FnExactWhose : codeIs PA 4 r_laws_FnExactWhose k_laws_FnExactWhose := by unfold codeIs; kernel_rfl

set_option maxRecDepth 100000 in
theorem h_law_Whose (a : THouse) (hla : lHouse a) : CallsF Tryz.prog 4 [.agg (sHouse a)] (aB true) := by
  refine Prun c_laws_FnExactWhose (by simp [r_laws_FnExactWhose]) (by simp) ?_
  (conv in k_laws_FnExactWhose => reduce); unfold r_laws_FnExactWhose
  have hsz1 := h_szHouse a 1048576 hla (by omega) (by omega)
  simp [sHouse]
  refine callG_F hsz1 (by simp) ?_
  by_cases g1 : (1048576 : Int) < (wHouse a : Int)
  · simp [lft_neg g1]
  have e1 : lft 1048576 (wHouse a) = 1048576 - wHouse a := lft_pos (by omega)
  have n1 : ¬ (1048576 : Int) - wHouse a < 0 := by omega
  simp [e1, n1]
  have hta := h_toHouse a (by omega)
  have hea := h_eqHouse a (by omega)
  have hs := h_spec_Whose a (by omega) hla
  have hi := h_impl_Whose a (by omega) hla
  generalize whoseG a = T at *
  first | refine callG_F hta (by simp) ?_ | refine callOG_F hta (by simp) ?_ | refine gcal_F hta (by simp) ?_ | refine callRG_F hta rfl rfl (by simp) (by simp) ?_ | refine ⟨_, by simp, hta, ?_⟩
  try simp [rHouse]
  first | refine callG_F hs (by simp) ?_ | refine callOG_F hs (by simp) ?_ | refine gcal_F hs (by simp) ?_ | refine callRG_F hs rfl rfl (by simp) (by simp) ?_ | refine ⟨_, by simp, hs, ?_⟩
  try simp [rHouse]
  first | refine callG_F hta (by simp) ?_ | refine callOG_F hta (by simp) ?_ | refine gcal_F hta (by simp) ?_ | refine callRG_F hta rfl rfl (by simp) (by simp) ?_ | refine ⟨_, by simp, hta, ?_⟩
  try simp [rHouse]
  first | refine callG_F hi (by simp) ?_ | refine callOG_F hi (by simp) ?_ | refine gcal_F hi (by simp) ?_ | refine callRG_F hi rfl rfl (by simp) (by simp) ?_ | refine ⟨_, by simp, hi, ?_⟩
  try simp [rHouse]
  first | refine callG_F hta (by simp) ?_ | refine callOG_F hta (by simp) ?_ | refine gcal_F hta (by simp) ?_ | refine callRG_F hta rfl rfl (by simp) (by simp) ?_ | refine ⟨_, by simp, hta, ?_⟩
  try simp [rHouse]
  first | refine callG_F hea (by simp) ?_ | refine callOG_F hea (by simp) ?_ | refine gcal_F hea (by simp) ?_ | refine callRG_F hea rfl rfl (by simp) (by simp) ?_ | refine ⟨_, by simp, hea, ?_⟩
  try simp [rHouse]
end
section -- Gram_sh
attribute [-simp] cS_t cS_f row20_len row20_sc row20_view row20_store row20_aff row20_ref row20_noSh row20_shr row20_lend row20_take row20_drop setR_noSh
def shGram : List Sh := [.l 1 [.l 1 [.l 1 [.i]]]]
theorem of_Gram (x : List C) (h : inShs shGram x) : ∃ a : TGram, x = sGram a ∧ lGram a := by
  simp only [shGram, inShs] at h
  obtain ⟨c0, r0, rfl, h0, rfl⟩ := h
  obtain ⟨n0, rfl, g0⟩ := of_sl of_ISS c0 h0
  refine ⟨⟨n0⟩, rfl, ?_⟩
  simp only [lGram]
  exact g0
end
section -- Conf_sh
attribute [-simp] cS_t cS_f row20_len row20_sc row20_view row20_store row20_aff row20_ref row20_noSh row20_shr row20_lend row20_take row20_drop setR_noSh
def shConf : List Sh := [.i, .l 1 [.i]]
theorem of_Conf (x : List C) (h : inShs shConf x) : ∃ a : TConf, x = sConf a ∧ lConf a := by
  simp only [shConf, inShs] at h
  obtain ⟨c0, r0, rfl, h0, c1, r1, rfl, h1, rfl⟩ := h
  simp only [inSh] at h0
  obtain ⟨n0, rfl, v0⟩ := h0
  obtain ⟨n1, rfl, g1⟩ := of_sl of_int c1 h1
  refine ⟨⟨n0, n1⟩, rfl, ?_⟩
  simp only [lConf]
  exact g1
end
section -- Line_sh
attribute [-simp] cS_t cS_f row20_len row20_sc row20_view row20_store row20_aff row20_ref row20_noSh row20_shr row20_lend row20_take row20_drop setR_noSh
def shLine : List Sh := [.l 2 shConf, .i, .l 2 shConf]
theorem of_Line (x : List C) (h : inShs shLine x) : ∃ a : TLine, x = sLine a ∧ lLine a := by
  simp only [shLine, inShs] at h
  obtain ⟨c0, r0, rfl, h0, c1, r1, rfl, h1, c2, r2, rfl, h2, rfl⟩ := h
  obtain ⟨n0, rfl, g0⟩ := of_sl of_Conf c0 h0
  simp only [inSh] at h1
  obtain ⟨n1, rfl, v1⟩ := h1
  obtain ⟨n2, rfl, g2⟩ := of_sl of_Conf c2 h2
  refine ⟨⟨n0, n1, n2⟩, rfl, ?_⟩
  simp only [lLine]
  exact ⟨g0, g2⟩
end
section -- Store_sh
attribute [-simp] cS_t cS_f row20_len row20_sc row20_view row20_store row20_aff row20_ref row20_noSh row20_shr row20_lend row20_take row20_drop setR_noSh
def shStore : List Sh := [.i, .l 3 shLine]
theorem of_Store (x : List C) (h : inShs shStore x) : ∃ a : TStore, x = sStore a ∧ lStore a := by
  simp only [shStore, inShs] at h
  obtain ⟨c0, r0, rfl, h0, c1, r1, rfl, h1, rfl⟩ := h
  simp only [inSh] at h0
  obtain ⟨n0, rfl, v0⟩ := h0
  obtain ⟨n1, rfl, g1⟩ := of_sl of_Line c1 h1
  refine ⟨⟨n0, n1⟩, rfl, ?_⟩
  simp only [lStore]
  exact g1
end
section -- Err_sh
attribute [-simp] cS_t cS_f row20_len row20_sc row20_view row20_store row20_aff row20_ref row20_noSh row20_shr row20_lend row20_take row20_drop setR_noSh
def shErr : List Sh := [.i, .i, .i]
theorem of_Err (x : List C) (h : inShs shErr x) : ∃ a : TErr, x = sErr a ∧ lErr a := by
  simp only [shErr, inShs] at h
  obtain ⟨c0, r0, rfl, h0, c1, r1, rfl, h1, c2, r2, rfl, h2, rfl⟩ := h
  simp only [inSh] at h0
  obtain ⟨n0, rfl, v0⟩ := h0
  simp only [inSh] at h1
  obtain ⟨n1, rfl, v1⟩ := h1
  simp only [inSh] at h2
  obtain ⟨n2, rfl, v2⟩ := h2
  refine ⟨⟨n0, n1, n2⟩, rfl, ?_⟩
  simp only [lErr]
end
section -- Node_sh
attribute [-simp] cS_t cS_f row20_len row20_sc row20_view row20_store row20_aff row20_ref row20_noSh row20_shr row20_lend row20_take row20_drop setR_noSh
def shNode : List Sh := [.i, .i, .i, .i, .l 1 [.i]]
theorem of_Node (x : List C) (h : inShs shNode x) : ∃ a : TNode, x = sNode a ∧ lNode a := by
  simp only [shNode, inShs] at h
  obtain ⟨c0, r0, rfl, h0, c1, r1, rfl, h1, c2, r2, rfl, h2, c3, r3, rfl, h3, c4, r4, rfl, h4, rfl⟩ := h
  simp only [inSh] at h0
  obtain ⟨n0, rfl, v0⟩ := h0
  simp only [inSh] at h1
  obtain ⟨n1, rfl, v1⟩ := h1
  simp only [inSh] at h2
  obtain ⟨n2, rfl, v2⟩ := h2
  simp only [inSh] at h3
  obtain ⟨n3, rfl, v3⟩ := h3
  obtain ⟨n4, rfl, g4⟩ := of_sl of_int c4 h4
  refine ⟨⟨n0, n1, n2, n3, n4⟩, rfl, ?_⟩
  simp only [lNode]
  exact g4
end
section -- Slot_sh
attribute [-simp] cS_t cS_f row20_len row20_sc row20_view row20_store row20_aff row20_ref row20_noSh row20_shr row20_lend row20_take row20_drop setR_noSh
def shSlot : List Sh := [.i, .i]
theorem of_Slot (x : List C) (h : inShs shSlot x) : ∃ a : TSlot, x = sSlot a ∧ lSlot a := by
  simp only [shSlot, inShs] at h
  obtain ⟨c0, r0, rfl, h0, c1, r1, rfl, h1, rfl⟩ := h
  simp only [inSh] at h0
  obtain ⟨n0, rfl, v0⟩ := h0
  simp only [inSh] at h1
  obtain ⟨n1, rfl, v1⟩ := h1
  refine ⟨⟨n0, n1⟩, rfl, ?_⟩
  simp only [lSlot]
end
section -- Job_sh
attribute [-simp] cS_t cS_f row20_len row20_sc row20_view row20_store row20_aff row20_ref row20_noSh row20_shr row20_lend row20_take row20_drop setR_noSh
def shJob : List Sh := [.i, .i, .l 1 [.i], .i, .i, .i, .i, .l 2 shSlot, .l 5 shNode, .l 3 shErr]
theorem of_Job (x : List C) (h : inShs shJob x) : ∃ a : TJob, x = sJob a ∧ lJob a := by
  simp only [shJob, inShs] at h
  obtain ⟨c0, r0, rfl, h0, c1, r1, rfl, h1, c2, r2, rfl, h2, c3, r3, rfl, h3, c4, r4, rfl, h4, c5, r5, rfl, h5, c6, r6, rfl, h6, c7, r7, rfl, h7, c8, r8, rfl, h8, c9, r9, rfl, h9, rfl⟩ := h
  simp only [inSh] at h0
  obtain ⟨n0, rfl, v0⟩ := h0
  simp only [inSh] at h1
  obtain ⟨n1, rfl, v1⟩ := h1
  obtain ⟨n2, rfl, g2⟩ := of_sl of_int c2 h2
  simp only [inSh] at h3
  obtain ⟨n3, rfl, v3⟩ := h3
  simp only [inSh] at h4
  obtain ⟨n4, rfl, v4⟩ := h4
  simp only [inSh] at h5
  obtain ⟨n5, rfl, v5⟩ := h5
  simp only [inSh] at h6
  obtain ⟨n6, rfl, v6⟩ := h6
  obtain ⟨n7, rfl, g7⟩ := of_sl of_Slot c7 h7
  obtain ⟨n8, rfl, g8⟩ := of_sl of_Node c8 h8
  obtain ⟨n9, rfl, g9⟩ := of_sl of_Err c9 h9
  refine ⟨⟨n0, n1, n2, ⟨n3, n4, n5, n6, n7, ⟨n8⟩, n9⟩⟩, rfl, ?_⟩
  simp only [lJob, lRun, lTree]
  exact ⟨g2, ⟨g7, g8, g9⟩⟩
end
section -- Outcome_sh
attribute [-simp] cS_t cS_f row20_len row20_sc row20_view row20_store row20_aff row20_ref row20_noSh row20_shr row20_lend row20_take row20_drop setR_noSh
def shOutcome : List Sh := [.i, .i, .s]
theorem of_Outcome (x : List C) (h : inShs shOutcome x) : ∃ a : TOutcome, x = sOutcome a ∧ lOutcome a := by
  simp only [shOutcome, inShs] at h
  obtain ⟨c0, r0, rfl, h0, c1, r1, rfl, h1, c2, r2, rfl, h2, rfl⟩ := h
  simp only [inSh] at h0
  obtain ⟨n0, rfl, v0⟩ := h0
  simp only [inSh] at h1
  obtain ⟨n1, rfl, v1⟩ := h1
  simp only [inSh] at h2
  obtain ⟨n2, rfl, g2⟩ := h2
  refine ⟨⟨n0, n1, n2⟩, rfl, ?_⟩
  simp only [lOutcome]
  exact g2
end
section -- Tenant_sh
attribute [-simp] cS_t cS_f row20_len row20_sc row20_view row20_store row20_aff row20_ref row20_noSh row20_shr row20_lend row20_take row20_drop setR_noSh
def shTenant : List Sh := [.i, .i, .i, .i, .i, .i, .i, .i, .l 10 shJob, .l 3 shOutcome]
theorem of_Tenant (x : List C) (h : inShs shTenant x) : ∃ a : TTenant, x = sTenant a ∧ lTenant a := by
  simp only [shTenant, inShs] at h
  obtain ⟨c0, r0, rfl, h0, c1, r1, rfl, h1, c2, r2, rfl, h2, c3, r3, rfl, h3, c4, r4, rfl, h4, c5, r5, rfl, h5, c6, r6, rfl, h6, c7, r7, rfl, h7, c8, r8, rfl, h8, c9, r9, rfl, h9, rfl⟩ := h
  simp only [inSh] at h0
  obtain ⟨n0, rfl, v0⟩ := h0
  simp only [inSh] at h1
  obtain ⟨n1, rfl, v1⟩ := h1
  simp only [inSh] at h2
  obtain ⟨n2, rfl, v2⟩ := h2
  simp only [inSh] at h3
  obtain ⟨n3, rfl, v3⟩ := h3
  simp only [inSh] at h4
  obtain ⟨n4, rfl, v4⟩ := h4
  simp only [inSh] at h5
  obtain ⟨n5, rfl, v5⟩ := h5
  simp only [inSh] at h6
  obtain ⟨n6, rfl, v6⟩ := h6
  simp only [inSh] at h7
  obtain ⟨n7, rfl, v7⟩ := h7
  obtain ⟨n8, rfl, g8⟩ := of_sl of_Job c8 h8
  obtain ⟨n9, rfl, g9⟩ := of_sl of_Outcome c9 h9
  refine ⟨⟨n0, n1, n2, n3, n4, n5, n6, n7, n8, n9⟩, rfl, ?_⟩
  simp only [lTenant]
  exact ⟨g8, g9⟩
end
section -- House_sh
attribute [-simp] cS_t cS_f row20_len row20_sc row20_view row20_store row20_aff row20_ref row20_noSh row20_shr row20_lend row20_take row20_drop setR_noSh
def shHouse : List Sh := [.i, .i, .l 1 shGram, .l 2 shStore, .l 10 shTenant]
theorem of_House (x : List C) (h : inShs shHouse x) : ∃ a : THouse, x = sHouse a ∧ lHouse a := by
  simp only [shHouse, inShs] at h
  obtain ⟨c0, r0, rfl, h0, c1, r1, rfl, h1, c2, r2, rfl, h2, c3, r3, rfl, h3, c4, r4, rfl, h4, rfl⟩ := h
  simp only [inSh] at h0
  obtain ⟨n0, rfl, v0⟩ := h0
  simp only [inSh] at h1
  obtain ⟨n1, rfl, v1⟩ := h1
  obtain ⟨n2, rfl, g2⟩ := of_sl of_Gram c2 h2
  obtain ⟨n3, rfl, g3⟩ := of_sl of_Store c3 h3
  obtain ⟨n4, rfl, g4⟩ := of_sl of_Tenant c4 h4
  refine ⟨⟨n0, n1, n2, n3, n4⟩, rfl, ?_⟩
  simp only [lHouse]
  exact ⟨g2, g3, g4⟩
end
section -- B_FnExactWhose
open Go.ChangeShapes Go.WideShapes Go.ChangeAt Go.RowKit Go.Proofs.YthpgfalifhpcfaaGreat
theorem own_FnExactWhose : ownKnob Tryz.prog.godebug = none := by kernel_rfl
theorem laidOut_FnExactWhose : laidOutB Tryz.prog = true := by kernel_rfl
set_option maxRecDepth 100000 in
theorem lifted_FnExactWhose (os : Os) (started : os.Started) (H : Type) (enc : TypeId × Value → H) :
    ReturnsInHanded {} Tryz.checked os 4 .any (Rows.fnExactWhoseSpec.pre6 enc Tryz.prog Tryz.f4 Rows.fnExactWhoseRow.domain false) (Rows.fnExactWhoseSpec.post enc Tryz.prog Tryz.f4 false true false false) := by
  refine returnsInHanded_of_change (C := Tryz.checked) own_FnExactWhose started (by kernel_rfl) Tryz.func4
    (ChangeSpec.witness6 (enc := enc) (C := Tryz.checked) false ⟨#[], #[.agg #[.int .i64 0, .int .i64 0, .slice none 0 0, .slice none 0 0, .slice none 0 0]], []⟩ 8 (by kernel_rfl) (by kernel_rfl) (by kernel_rfl) (by kernel_rfl)) ?_
  intro W base args ds gs before hval0 hW hcnd _
  have hval : ∀ (j : Nat) t v, Tryz.f4.params[j]? = some t → args[j]? = some v → Value.okWide Tryz.prog W .any base t v := hval0
  have hW' := hW
  obtain ⟨p, q, hA0, hV, rfl, hfz, hnd⟩ := hW
  have hA : DataW.TrodAll enc Tryz.prog W 0 (fun _ => true) true Tryz.f4.params.toList args.toList ds p := hA0
  rw [Tryz.params4] at hA hval
  obtain ⟨v0, d0, rfl, rfl, h0⟩ := trodAll_one hA
  obtain ⟨rfl, rfl⟩ := trodVars_none hV
  have hV0 : ∀ (W' : World) (sp : Nat → Bool), DataW.TrodVars enc Tryz.checked.prog W' sp Rows.fnExactWhoseSpec.vars ([] : List (DataW H)) [] := fun _ _ => by first | rfl | trivial | exact ⟨rfl, rfl⟩ | exact ⟨_, rfl, rfl⟩
  have hk0 := h0
  have hs0 : shT Tryz.prog 12 26 = some shHouse := by kernel_rfl
  obtain ⟨row0, hc0, hr0⟩ := arg_st (lc := fun _ => none) Tryz.underlying26 hs0 (hval 0 26 v0 rfl rfl) h0
  obtain ⟨x0, rfl, hl0⟩ := of_House row0 hc0
  clear hA0 hval0
  simp only [List.append_nil] at hW'
  refine (below_of (h_law_Whose x0 hl0) (fun _ _ _ _ h => h.1) W [v0] (by simp [sHouse, aI, aS, A.ref, C.ref, refCs]) ⟨_, _, fz, fz, rfl, (add_fz _).symm, hr0, ⟨rfl, rfl⟩⟩ rfl).mono fun e W' ⟨he, hw⟩ => ?_
  subst he
  exact ⟨_, rfl, [d0], [], _, [], _, [], by simpa using hW', trodAll_mk1 (shut_bool Tryz.underlying4 true), trodAll_mk1 (Below.trod laidOut_FnExactWhose (by kernel_rfl) (of_decide_eq_true (by kernel_rfl)) hk0 hw (fun x hx => by have := hW'.lt x (by simp [hx]); simpa using this)), hV0 _ _, hw.frame _, fun h => by cases h⟩
theorem jf0 : (Rows.fnExactWhoseRow.wf (OpenSpec.ofChange Rows.fnExactWhoseSpec)) = true := by kernel_rfl
theorem jf1 : (laidOutB Tryz.checked.prog) = true := by kernel_rfl
theorem jf2 : (mapsRowed Tryz.checked.prog) = true := by kernel_rfl
theorem jf3 : (Tryz.f4.params.all (Tryz.checked.prog.readableRec ·)) = true := by kernel_rfl
theorem jf4 : (namedTie Tryz.checked.prog Rows.fnExactWhoseRow.named Rows.fnExactWhoseSpec.vars) = true := by kernel_rfl
theorem jf5 : ((Rows.fnExactWhoseRow.stops == [])) = true := by kernel_rfl
theorem jf6 : ((Tryz.checked.prog.stops == [])) = true := by kernel_rfl
theorem jf7 : ((Rows.fnExactWhoseRow.knobs == [])) = true := by kernel_rfl
theorem jf8 : ((Tryz.checked.prog.stopKnobs == [])) = true := by kernel_rfl
theorem jf9 : ((Rows.fnExactWhoseRow.inPlace == Tryz.checked.prog.inPlace 4)) = true := by kernel_rfl
theorem jf10 : ((Rows.fnExactWhoseRow.unfollowed == Tryz.checked.prog.unfollowed 4)) = true := by kernel_rfl
theorem jf11 : ((Rows.fnExactWhoseRow.recurses == Tryz.checked.prog.recurses 4)) = true := by kernel_rfl
theorem jf12 : ((Rows.fnExactWhoseRow.named == Tryz.checked.prog.varsNamed 4)) = true := by kernel_rfl
theorem jf13 : ((Rows.fnExactWhoseRow.maps == (Tryz.f4.params.toList ++ Rows.fnExactWhoseSpec.plain.varTypes Tryz.checked.prog).any (Tryz.checked.prog.mapsRec ·))) = true := by kernel_rfl
theorem jf14 : ((Rows.fnExactWhoseRow.ifaces == (Tryz.f4.params.toList ++ Rows.fnExactWhoseSpec.plain.varTypes Tryz.checked.prog).any (Tryz.checked.prog.ifacesRec ·))) = true := by kernel_rfl
theorem jf15 : ((Rows.fnExactWhoseRow.mapsOut == Tryz.checked.prog.mapsAmong Tryz.f4.resultTypes.toList)) = true := by kernel_rfl
theorem jf16 : ((Rows.fnExactWhoseRow.loops == (Tryz.f4.params.toList ++ Rows.fnExactWhoseSpec.plain.varTypes Tryz.checked.prog).any (Tryz.checked.prog.loopsFrom ·))) = true := by kernel_rfl
theorem jf17 : ((Rows.fnExactWhoseRow.wideKeys == (Tryz.f4.params.toList ++ Rows.fnExactWhoseSpec.plain.varTypes Tryz.checked.prog ++ Tryz.f4.resultTypes.toList).any (Tryz.checked.prog.wideKeysFrom ·))) = true := by kernel_rfl
theorem jf18 : (Rows.fnExactWhoseSpec.vars.all (Tryz.checked.prog.varReadable ·)) = true := by kernel_rfl
theorem jf19 : (Tryz.f4.resultTypes.all (fun t => Tryz.checked.prog.readableRec t && decide (t < Tryz.checked.prog.types.size))) = true := by kernel_rfl
theorem jf20 : ((Rows.fnExactWhoseRow.ifacesOut == Tryz.f4.resultTypes.toList.any (Tryz.checked.prog.ifacesRec ·))) = true := by kernel_rfl
theorem jf21 : ((Rows.fnExactWhoseRow.loopsOut == Tryz.f4.resultTypes.toList.any (Tryz.checked.prog.loopsFrom ·))) = true := by kernel_rfl
theorem jf22 : ((Rows.fnExactWhoseRow.plainKeys == Tryz.checked.prog.plainKeys)) = true := by kernel_rfl
theorem jf23 : (Rows.fnExactWhoseRow.shortTexts.isNone) = true := by kernel_rfl
theorem jf24 : (Tryz.checked.prog.stopsHeard) = true := by kernel_rfl
theorem jf25 : (Tryz.checked.prog.mayEnter) = true := by kernel_rfl
theorem jf26 : ((Rows.fnExactWhoseRow.lifted == Tryz.checked.prog.liftsFinal)) = true := by kernel_rfl
theorem jf27 : ((Tryz.checked.prog.make == some Rows.fnExactWhoseRow.make)) = true := by kernel_rfl
theorem jf29 : ((Rows.fnExactWhoseRow.pinned == Rows.fnExactWhoseRow.pinnedBy)) = true := by kernel_rfl
theorem jf30 : ((Rows.fnExactWhoseRow.veiled == (Tryz.f4.params.toList ++ Rows.fnExactWhoseSpec.plain.varTypes Tryz.checked.prog ++ Tryz.f4.resultTypes.toList).any (Tryz.checked.prog.veiledRec ·))) = true := by kernel_rfl
theorem jf31 : (Rows.fnExactWhoseRow.veiledFits Tryz.checked.prog Tryz.f4.params.toList (Tryz.f4.params.toList ++ Rows.fnExactWhoseSpec.plain.varTypes Tryz.checked.prog ++ Tryz.f4.resultTypes.toList)) = true := by kernel_rfl
theorem jf : joinedFacts Tryz.checked.prog 4 Tryz.f4 Rows.fnExactWhoseSpec Rows.fnExactWhoseRow = true := by
  unfold joinedFacts
  simp only [Bool.and_eq_true]
  repeat' apply And.intro
  exact jf0
  exact jf1
  exact jf2
  exact jf3
  exact jf4
  exact jf5
  exact jf6
  exact jf7
  exact jf8
  exact jf9
  exact jf10
  exact jf11
  exact jf12
  exact jf13
  exact jf14
  exact jf15
  exact jf16
  exact jf17
  exact jf18
  exact jf19
  exact jf20
  exact jf21
  exact jf22
  exact jf23
  exact jf24
  exact jf25
  exact jf26
  exact jf27
  · kernel_rfl
  exact jf29
  exact jf30
  exact jf31
theorem holds_FnExactWhose : Rows.FnExactWhoseSaid :=
  OpenClaim.holds_of_wide 4 Tryz.f4 rfl rfl rfl rfl rfl rfl rfl ⟨rfl, rfl, rfl, rfl, rfl⟩ rfl rfl rfl rfl rfl (by kernel_rfl) Tryz.func4 jf
    (of_decide_eq_true (by kernel_rfl)) (by unfold Func.isWrapper; first | (rw [if_pos (by decide +kernel)]; kernel_rfl) | (rw [if_neg (by decide +kernel)]; exact ⟨rfl, rfl⟩))
    (fun os started H enc _ => lifted_FnExactWhose os started H enc)
#print axioms holds_FnExactWhose
end
end Go.Am
namespace Go.Proofs.YthpgfalifhpcfaaGreat
theorem fnExactWhose_holds : Rows.FnExactWhoseSaid := Go.Am.holds_FnExactWhose
end Go.Proofs.YthpgfalifhpcfaaGreat
