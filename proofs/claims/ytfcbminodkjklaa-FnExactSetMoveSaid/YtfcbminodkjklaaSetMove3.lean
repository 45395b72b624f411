/- PROVED: what the program and the reference close behind a letter: the same set of confs, or none -/
import Derived.Test.YtfcbminodkjklaaSetMove2
import Derived.Test.YtfcbminodkjklaaRows
import Derived.ProofKit
set_option linter.unusedVariables false
set_option linter.unusedSimpArgs false
-- Job_y
namespace Go.Am
open Go.Proofs
set_option maxHeartbeats 4000000
set_option maxRecDepth 100000
attribute [-simp] BitVec.toNat_or BitVec.toNat_and BitVec.toNat_ofInt
attribute [-simp] rConf_len sConf_len shr_rConf shr_sConf shrs_rConf shrs_sConf noSh_rConf mConf_wr mConf_n rIS_len sIS_len shr_rIS shr_sIS shrs_rIS shrs_sIS noSh_rIS rISS_len sISS_len shr_rISS shr_sISS shrs_rISS shrs_sISS noSh_rISS rGram_len sGram_len shr_rGram shr_sGram shrs_rGram shrs_sGram noSh_rGram mGram_wr mGram_n cS_t cS_f row20_len row20_sc row20_view row20_store row20_aff row20_ref row20_noSh row20_shr row20_lend row20_take row20_drop rB_len setR_noSh
structure TJob where
  ticket : Int
  gram : Int
  input : List Int
  run : TRun
  deriving DecidableEq, Inhabited
def rJob (a : TJob) : List C := [cI a.ticket, cI a.gram, .ar true 3 1 (a.input.map rI), cI a.run.code, cI a.run.pos, cI a.run.look, cI a.run.cost, .ar true 183 2 (a.run.slots.map rSlot), .ar true 185 5 (a.run.tree.nodes.map rNode), .ar true 187 3 (a.run.errs.map rErr)]
def sJob (a : TJob) : List C := [cI a.ticket, cI a.gram, .ar false 0 1 (a.input.map rI), cI a.run.code, cI a.run.pos, cI a.run.look, cI a.run.cost, .ar false 0 2 (a.run.slots.map sSlot), .ar false 0 5 (a.run.tree.nodes.map sNode), .ar false 0 3 (a.run.errs.map sErr)]
def zJob : List C := [cI 0, cI 0, .ar true 3 1 [], cI 0, cI 0, cI 0, cI 0, .ar true 183 2 [], .ar true 185 5 [], .ar true 187 3 []]
@[simp] theorem rJob_len (a : TJob) : (rJob a).length = 10 := rfl
@[simp] theorem sJob_len (a : TJob) : (sJob a).length = 10 := rfl
@[simp] theorem shr_rJob (a : TJob) : shrRow (rJob a) = sJob a := by simp [rJob, sJob]
@[simp] theorem shr_sJob (a : TJob) : shrRow (sJob a) = sJob a := by simp [sJob]
@[simp] theorem shrs_rJob (xs : List TJob) : shrRows (xs.map rJob) = xs.map sJob := shrRows_of shr_rJob xs
@[simp] theorem shrs_sJob (xs : List TJob) : shrRows (xs.map sJob) = xs.map sJob := shrRows_of shr_sJob xs
@[simp] theorem noSh_rJob (xs : List TJob) : noShRows (xs.map rJob) = true := noSh_of (fun a => by simp [rJob]) xs
def wJob (a : TJob) : Nat := wL w0 a.input + wRun a.run
def lJob (a : TJob) : Prop := lL l0 a.input ∧ lRun a.run
def mJob : Mk TJob := ⟨fun a k => ⟨k, k + 1, mI.mkL a.input (k + 1 + 1), ⟨k + 1 + 1 + mI.nL a.input, k + 1 + 1 + mI.nL a.input + 1, k + 1 + 1 + mI.nL a.input + 1 + 1, k + 1 + 1 + mI.nL a.input + 1 + 1 + 1, mSlot.mkL a.run.slots (k + 1 + 1 + mI.nL a.input + 1 + 1 + 1 + 1), ⟨mNode.mkL a.run.tree.nodes (k + 1 + 1 + mI.nL a.input + 1 + 1 + 1 + 1 + mSlot.nL a.run.slots)⟩, mErr.mkL a.run.errs (k + 1 + 1 + mI.nL a.input + 1 + 1 + 1 + 1 + mSlot.nL a.run.slots + mNode.nL a.run.tree.nodes)⟩⟩, fun a => 1 + 1 + mI.nL a.input + 1 + 1 + 1 + 1 + mSlot.nL a.run.slots + mNode.nL a.run.tree.nodes + mErr.nL a.run.errs⟩
@[simp] theorem mJob_wr (a : TJob) (k : Int) : mJob.wr a k = ⟨k, k + 1, mI.mkL a.input (k + 1 + 1), ⟨k + 1 + 1 + mI.nL a.input, k + 1 + 1 + mI.nL a.input + 1, k + 1 + 1 + mI.nL a.input + 1 + 1, k + 1 + 1 + mI.nL a.input + 1 + 1 + 1, mSlot.mkL a.run.slots (k + 1 + 1 + mI.nL a.input + 1 + 1 + 1 + 1), ⟨mNode.mkL a.run.tree.nodes (k + 1 + 1 + mI.nL a.input + 1 + 1 + 1 + 1 + mSlot.nL a.run.slots)⟩, mErr.mkL a.run.errs (k + 1 + 1 + mI.nL a.input + 1 + 1 + 1 + 1 + mSlot.nL a.run.slots + mNode.nL a.run.tree.nodes)⟩⟩ := rfl
@[simp] theorem mJob_n (a : TJob) : mJob.n a = 1 + 1 + mI.nL a.input + 1 + 1 + 1 + 1 + mSlot.nL a.run.slots + mNode.nL a.run.tree.nodes + mErr.nL a.run.errs := rfl
end Go.Am
-- Outcome_y
namespace Go.Am
open Go.Proofs
set_option maxHeartbeats 4000000
set_option maxRecDepth 100000
attribute [-simp] BitVec.toNat_or BitVec.toNat_and BitVec.toNat_ofInt
attribute [-simp] rConf_len sConf_len shr_rConf shr_sConf shrs_rConf shrs_sConf noSh_rConf mConf_wr mConf_n rIS_len sIS_len shr_rIS shr_sIS shrs_rIS shrs_sIS noSh_rIS rISS_len sISS_len shr_rISS shr_sISS shrs_rISS shrs_sISS noSh_rISS rGram_len sGram_len shr_rGram shr_sGram shrs_rGram shrs_sGram noSh_rGram mGram_wr mGram_n cS_t cS_f row20_len row20_sc row20_view row20_store row20_aff row20_ref row20_noSh row20_shr row20_lend row20_take row20_drop rB_len setR_noSh rErr_len sErr_len shr_rErr shr_sErr shrs_rErr shrs_sErr noSh_rErr mErr_wr mErr_n rSlot_len sSlot_len shr_rSlot shr_sSlot shrs_rSlot shrs_sSlot noSh_rSlot mSlot_wr mSlot_n rNode_len sNode_len shr_rNode shr_sNode shrs_rNode shrs_sNode noSh_rNode mNode_wr mNode_n rTree_len sTree_len shr_rTree shr_sTree shrs_rTree shrs_sTree noSh_rTree mTree_wr mTree_n rRun_len sRun_len shr_rRun shr_sRun shrs_rRun shrs_sRun noSh_rRun mRun_wr mRun_n rJob_len sJob_len shr_rJob shr_sJob shrs_rJob shrs_sJob noSh_rJob mJob_wr mJob_n
structure TOutcome where
  ticket : Int
  code : Int
  text : ByteArray
  deriving DecidableEq, Inhabited
def rOutcome (a : TOutcome) : List C := [cI a.ticket, cI a.code, .str a.text]
def sOutcome (a : TOutcome) : List C := [cI a.ticket, cI a.code, .str a.text]
def zOutcome : List C := [cI 0, cI 0, .str ⟨#[]⟩]
@[simp] theorem rOutcome_len (a : TOutcome) : (rOutcome a).length = 3 := rfl
@[simp] theorem sOutcome_len (a : TOutcome) : (sOutcome a).length = 3 := rfl
@[simp] theorem shr_rOutcome (a : TOutcome) : shrRow (rOutcome a) = sOutcome a := by simp [rOutcome, sOutcome]
@[simp] theorem shr_sOutcome (a : TOutcome) : shrRow (sOutcome a) = sOutcome a := by simp [sOutcome]
@[simp] theorem shrs_rOutcome (xs : List TOutcome) : shrRows (xs.map rOutcome) = xs.map sOutcome := shrRows_of shr_rOutcome xs
@[simp] theorem shrs_sOutcome (xs : List TOutcome) : shrRows (xs.map sOutcome) = xs.map sOutcome := shrRows_of shr_sOutcome xs
@[simp] theorem noSh_rOutcome (xs : List TOutcome) : noShRows (xs.map rOutcome) = true := noSh_of (fun a => by simp [rOutcome]) xs
def wOutcome (a : TOutcome) : Nat := a.text.size
def lOutcome (a : TOutcome) : Prop := a.text.size < 2 ^ 63
def mOutcome : Mk TOutcome := ⟨fun _ k => ⟨k, k + 1, mtx (k + 1 + 1)⟩, fun _ => 1 + 1 + 1⟩
@[simp] theorem mOutcome_wr (a : TOutcome) (k : Int) : mOutcome.wr a k = ⟨k, k + 1, mtx (k + 1 + 1)⟩ := rfl
@[simp] theorem mOutcome_n (a : TOutcome) : mOutcome.n a = 1 + 1 + 1 := rfl
end Go.Am
-- Tenant_y
namespace Go.Am
open Go.Proofs
set_option maxHeartbeats 4000000
set_option maxRecDepth 100000
attribute [-simp] BitVec.toNat_or BitVec.toNat_and BitVec.toNat_ofInt
attribute [-simp] rConf_len sConf_len shr_rConf shr_sConf shrs_rConf shrs_sConf noSh_rConf mConf_wr mConf_n rIS_len sIS_len shr_rIS shr_sIS shrs_rIS shrs_sIS noSh_rIS rISS_len sISS_len shr_rISS shr_sISS shrs_rISS shrs_sISS noSh_rISS rGram_len sGram_len shr_rGram shr_sGram shrs_rGram shrs_sGram noSh_rGram mGram_wr mGram_n cS_t cS_f row20_len row20_sc row20_view row20_store row20_aff row20_ref row20_noSh row20_shr row20_lend row20_take row20_drop rB_len setR_noSh
structure TTenant where
  quantum : Int
  cls : Int
  budget : Int
  used : Int
  wait : Int
  turns : Int
  next : Int
  due : Int
  queue : List TJob
  out : List TOutcome
  deriving DecidableEq, Inhabited
def rTenant (a : TTenant) : List C := [cI a.quantum, cI a.cls, cI a.budget, cI a.used, cI a.wait, cI a.turns, cI a.next, cI a.due, .ar true 133 10 (a.queue.map rJob), .ar true 102 3 (a.out.map rOutcome)]
def sTenant (a : TTenant) : List C := [cI a.quantum, cI a.cls, cI a.budget, cI a.used, cI a.wait, cI a.turns, cI a.next, cI a.due, .ar false 0 10 (a.queue.map sJob), .ar false 0 3 (a.out.map sOutcome)]
def zTenant : List C := [cI 0, cI 0, cI 0, cI 0, cI 0, cI 0, cI 0, cI 0, .ar true 133 10 [], .ar true 102 3 []]
@[simp] theorem rTenant_len (a : TTenant) : (rTenant a).length = 10 := rfl
@[simp] theorem sTenant_len (a : TTenant) : (sTenant a).length = 10 := rfl
@[simp] theorem shr_rTenant (a : TTenant) : shrRow (rTenant a) = sTenant a := by simp [rTenant, sTenant]
@[simp] theorem shr_sTenant (a : TTenant) : shrRow (sTenant a) = sTenant a := by simp [sTenant]
@[simp] theorem shrs_rTenant (xs : List TTenant) : shrRows (xs.map rTenant) = xs.map sTenant := shrRows_of shr_rTenant xs
@[simp] theorem shrs_sTenant (xs : List TTenant) : shrRows (xs.map sTenant) = xs.map sTenant := shrRows_of shr_sTenant xs
@[simp] theorem noSh_rTenant (xs : List TTenant) : noShRows (xs.map rTenant) = true := noSh_of (fun a => by simp [rTenant]) xs
def wTenant (a : TTenant) : Nat := wL wJob a.queue + wL wOutcome a.out
def lTenant (a : TTenant) : Prop := lL lJob a.queue ∧ lL lOutcome a.out
def mTenant : Mk TTenant := ⟨fun a k => ⟨k, k + 1, k + 1 + 1, k + 1 + 1 + 1, k + 1 + 1 + 1 + 1, k + 1 + 1 + 1 + 1 + 1, k + 1 + 1 + 1 + 1 + 1 + 1, k + 1 + 1 + 1 + 1 + 1 + 1 + 1, mJob.mkL a.queue (k + 1 + 1 + 1 + 1 + 1 + 1 + 1 + 1), mOutcome.mkL a.out (k + 1 + 1 + 1 + 1 + 1 + 1 + 1 + 1 + mJob.nL a.queue)⟩, fun a => 1 + 1 + 1 + 1 + 1 + 1 + 1 + 1 + mJob.nL a.queue + mOutcome.nL a.out⟩
@[simp] theorem mTenant_wr (a : TTenant) (k : Int) : mTenant.wr a k = ⟨k, k + 1, k + 1 + 1, k + 1 + 1 + 1, k + 1 + 1 + 1 + 1, k + 1 + 1 + 1 + 1 + 1, k + 1 + 1 + 1 + 1 + 1 + 1, k + 1 + 1 + 1 + 1 + 1 + 1 + 1, mJob.mkL a.queue (k + 1 + 1 + 1 + 1 + 1 + 1 + 1 + 1), mOutcome.mkL a.out (k + 1 + 1 + 1 + 1 + 1 + 1 + 1 + 1 + mJob.nL a.queue)⟩ := rfl
@[simp] theorem mTenant_n (a : TTenant) : mTenant.n a = 1 + 1 + 1 + 1 + 1 + 1 + 1 + 1 + mJob.nL a.queue + mOutcome.nL a.out := rfl
end Go.Am
-- Tenant_u
namespace Go.Am
open Go.Proofs
set_option maxHeartbeats 4000000
set_option maxRecDepth 100000
attribute [-simp] BitVec.toNat_or BitVec.toNat_and BitVec.toNat_ofInt
attribute [-simp] rConf_len sConf_len shr_rConf shr_sConf shrs_rConf shrs_sConf noSh_rConf mConf_wr mConf_n rIS_len sIS_len shr_rIS shr_sIS shrs_rIS shrs_sIS noSh_rIS rISS_len sISS_len shr_rISS shr_sISS shrs_rISS shrs_sISS noSh_rISS rGram_len sGram_len shr_rGram shr_sGram shrs_rGram shrs_sGram noSh_rGram mGram_wr mGram_n cS_t cS_f row20_len row20_sc row20_view row20_store row20_aff row20_ref row20_noSh row20_shr row20_lend row20_take row20_drop rB_len setR_noSh
def vTenant (a : TTenant) : List C := [cI a.quantum, cI a.cls, cI a.budget, cI a.used, cI a.wait, cI a.turns, cI a.next, cI a.due, .vw 133 10 1000 [] 0 a.queue.length, .vw 102 3 1001 [] 0 a.out.length]
def uTenant : Mk TTenant := ⟨fun a k => ⟨a.quantum, a.cls, a.budget, a.used, a.wait, a.turns, a.next, a.due, mJob.mkL a.queue (k), mOutcome.mkL a.out (k + mJob.nL a.queue)⟩, fun a => mJob.nL a.queue + mOutcome.nL a.out⟩
@[simp] theorem uTenant_wr (a : TTenant) (k : Int) : uTenant.wr a k = ⟨a.quantum, a.cls, a.budget, a.used, a.wait, a.turns, a.next, a.due, mJob.mkL a.queue (k), mOutcome.mkL a.out (k + mJob.nL a.queue)⟩ := rfl
@[simp] theorem uTenant_n (a : TTenant) : uTenant.n a = mJob.nL a.queue + mOutcome.nL a.out := rfl
end Go.Am
-- Line_y
namespace Go.Am
open Go.Proofs
set_option maxHeartbeats 4000000
set_option maxRecDepth 100000
attribute [-simp] BitVec.toNat_or BitVec.toNat_and BitVec.toNat_ofInt
attribute [-simp] rIS_len sIS_len shr_rIS shr_sIS shrs_rIS shrs_sIS noSh_rIS rISS_len sISS_len shr_rISS shr_sISS shrs_rISS shrs_sISS noSh_rISS rGram_len sGram_len shr_rGram shr_sGram shrs_rGram shrs_sGram noSh_rGram mGram_wr mGram_n cS_t cS_f row20_len row20_sc row20_view row20_store row20_aff row20_ref row20_noSh row20_shr row20_lend row20_take row20_drop rB_len setR_noSh rErr_len sErr_len shr_rErr shr_sErr shrs_rErr shrs_sErr noSh_rErr mErr_wr mErr_n rSlot_len sSlot_len shr_rSlot shr_sSlot shrs_rSlot shrs_sSlot noSh_rSlot mSlot_wr mSlot_n rNode_len sNode_len shr_rNode shr_sNode shrs_rNode shrs_sNode noSh_rNode mNode_wr mNode_n rTree_len sTree_len shr_rTree shr_sTree shrs_rTree shrs_sTree noSh_rTree mTree_wr mTree_n rRun_len sRun_len shr_rRun shr_sRun shrs_rRun shrs_sRun noSh_rRun mRun_wr mRun_n rJob_len sJob_len shr_rJob shr_sJob shrs_rJob shrs_sJob noSh_rJob mJob_wr mJob_n rOutcome_len sOutcome_len shr_rOutcome shr_sOutcome shrs_rOutcome shrs_sOutcome noSh_rOutcome mOutcome_wr mOutcome_n rTenant_len sTenant_len shr_rTenant shr_sTenant shrs_rTenant shrs_sTenant noSh_rTenant mTenant_wr mTenant_n uTenant_wr uTenant_n
structure TLine where
  frm : List TConf
  letter : Int
  too : List TConf
  deriving DecidableEq, Inhabited
def rLine (a : TLine) : List C := [.ar true 96 2 (a.frm.map rConf), cI a.letter, .ar true 96 2 (a.too.map rConf)]
def sLine (a : TLine) : List C := [.ar false 0 2 (a.frm.map sConf), cI a.letter, .ar false 0 2 (a.too.map sConf)]
def zLine : List C := [.ar true 96 2 [], cI 0, .ar true 96 2 []]
@[simp] theorem rLine_len (a : TLine) : (rLine a).length = 3 := rfl
@[simp] theorem sLine_len (a : TLine) : (sLine a).length = 3 := rfl
@[simp] theorem shr_rLine (a : TLine) : shrRow (rLine a) = sLine a := by simp [rLine, sLine]
@[simp] theorem shr_sLine (a : TLine) : shrRow (sLine a) = sLine a := by simp [sLine]
@[simp] theorem shrs_rLine (xs : List TLine) : shrRows (xs.map rLine) = xs.map sLine := shrRows_of shr_rLine xs
@[simp] theorem shrs_sLine (xs : List TLine) : shrRows (xs.map sLine) = xs.map sLine := shrRows_of shr_sLine xs
@[simp] theorem noSh_rLine (xs : List TLine) : noShRows (xs.map rLine) = true := noSh_of (fun a => by simp [rLine]) xs
def wLine (a : TLine) : Nat := wL wConf a.frm + wL wConf a.too
def lLine (a : TLine) : Prop := lL lConf a.frm ∧ lL lConf a.too
def mLine : Mk TLine := ⟨fun a k => ⟨mConf.mkL a.frm (k), k + mConf.nL a.frm, mConf.mkL a.too (k + mConf.nL a.frm + 1)⟩, fun a => mConf.nL a.frm + 1 + mConf.nL a.too⟩
@[simp] theorem mLine_wr (a : TLine) (k : Int) : mLine.wr a k = ⟨mConf.mkL a.frm (k), k + mConf.nL a.frm, mConf.mkL a.too (k + mConf.nL a.frm + 1)⟩ := rfl
@[simp] theorem mLine_n (a : TLine) : mLine.n a = mConf.nL a.frm + 1 + mConf.nL a.too := rfl
end Go.Am
-- Store_y
namespace Go.Am
open Go.Proofs
set_option maxHeartbeats 4000000
set_option maxRecDepth 100000
attribute [-simp] BitVec.toNat_or BitVec.toNat_and BitVec.toNat_ofInt
attribute [-simp] rIS_len sIS_len shr_rIS shr_sIS shrs_rIS shrs_sIS noSh_rIS rISS_len sISS_len shr_rISS shr_sISS shrs_rISS shrs_sISS noSh_rISS rGram_len sGram_len shr_rGram shr_sGram shrs_rGram shrs_sGram noSh_rGram mGram_wr mGram_n cS_t cS_f row20_len row20_sc row20_view row20_store row20_aff row20_ref row20_noSh row20_shr row20_lend row20_take row20_drop rB_len setR_noSh rErr_len sErr_len shr_rErr shr_sErr shrs_rErr shrs_sErr noSh_rErr mErr_wr mErr_n rSlot_len sSlot_len shr_rSlot shr_sSlot shrs_rSlot shrs_sSlot noSh_rSlot mSlot_wr mSlot_n rNode_len sNode_len shr_rNode shr_sNode shrs_rNode shrs_sNode noSh_rNode mNode_wr mNode_n rTree_len sTree_len shr_rTree shr_sTree shrs_rTree shrs_sTree noSh_rTree mTree_wr mTree_n rRun_len sRun_len shr_rRun shr_sRun shrs_rRun shrs_sRun noSh_rRun mRun_wr mRun_n rJob_len sJob_len shr_rJob shr_sJob shrs_rJob shrs_sJob noSh_rJob mJob_wr mJob_n rOutcome_len sOutcome_len shr_rOutcome shr_sOutcome shrs_rOutcome shrs_sOutcome noSh_rOutcome mOutcome_wr mOutcome_n rTenant_len sTenant_len shr_rTenant shr_sTenant shrs_rTenant shrs_sTenant noSh_rTenant mTenant_wr mTenant_n uTenant_wr uTenant_n
structure TStore where
  cap : Int
  lines : List TLine
  deriving DecidableEq, Inhabited
def rStore (a : TStore) : List C := [cI a.cap, .ar true 119 3 (a.lines.map rLine)]
def sStore (a : TStore) : List C := [cI a.cap, .ar false 0 3 (a.lines.map sLine)]
def zStore : List C := [cI 0, .ar true 119 3 []]
@[simp] theorem rStore_len (a : TStore) : (rStore a).length = 2 := rfl
@[simp] theorem sStore_len (a : TStore) : (sStore a).length = 2 := rfl
@[simp] theorem shr_rStore (a : TStore) : shrRow (rStore a) = sStore a := by simp [rStore, sStore]
@[simp] theorem shr_sStore (a : TStore) : shrRow (sStore a) = sStore a := by simp [sStore]
@[simp] theorem shrs_rStore (xs : List TStore) : shrRows (xs.map rStore) = xs.map sStore := shrRows_of shr_rStore xs
@[simp] theorem shrs_sStore (xs : List TStore) : shrRows (xs.map sStore) = xs.map sStore := shrRows_of shr_sStore xs
@[simp] theorem noSh_rStore (xs : List TStore) : noShRows (xs.map rStore) = true := noSh_of (fun a => by simp [rStore]) xs
def wStore (a : TStore) : Nat := wL wLine a.lines
def lStore (a : TStore) : Prop := lL lLine a.lines
def mStore : Mk TStore := ⟨fun a k => ⟨k, mLine.mkL a.lines (k + 1)⟩, fun a => 1 + mLine.nL a.lines⟩
@[simp] theorem mStore_wr (a : TStore) (k : Int) : mStore.wr a k = ⟨k, mLine.mkL a.lines (k + 1)⟩ := rfl
@[simp] theorem mStore_n (a : TStore) : mStore.n a = 1 + mLine.nL a.lines := rfl
end Go.Am
-- Store_u
namespace Go.Am
open Go.Proofs
set_option maxHeartbeats 4000000
set_option maxRecDepth 100000
attribute [-simp] BitVec.toNat_or BitVec.toNat_and BitVec.toNat_ofInt
attribute [-simp] rIS_len sIS_len shr_rIS shr_sIS shrs_rIS shrs_sIS noSh_rIS rISS_len sISS_len shr_rISS shr_sISS shrs_rISS shrs_sISS noSh_rISS rGram_len sGram_len shr_rGram shr_sGram shrs_rGram shrs_sGram noSh_rGram mGram_wr mGram_n cS_t cS_f row20_len row20_sc row20_view row20_store row20_aff row20_ref row20_noSh row20_shr row20_lend row20_take row20_drop rB_len setR_noSh rErr_len sErr_len shr_rErr shr_sErr shrs_rErr shrs_sErr noSh_rErr mErr_wr mErr_n rSlot_len sSlot_len shr_rSlot shr_sSlot shrs_rSlot shrs_sSlot noSh_rSlot mSlot_wr mSlot_n rNode_len sNode_len shr_rNode shr_sNode shrs_rNode shrs_sNode noSh_rNode mNode_wr mNode_n rTree_len sTree_len shr_rTree shr_sTree shrs_rTree shrs_sTree noSh_rTree mTree_wr mTree_n rRun_len sRun_len shr_rRun shr_sRun shrs_rRun shrs_sRun noSh_rRun mRun_wr mRun_n rJob_len sJob_len shr_rJob shr_sJob shrs_rJob shrs_sJob noSh_rJob mJob_wr mJob_n rOutcome_len sOutcome_len shr_rOutcome shr_sOutcome shrs_rOutcome shrs_sOutcome noSh_rOutcome mOutcome_wr mOutcome_n rTenant_len sTenant_len shr_rTenant shr_sTenant shrs_rTenant shrs_sTenant noSh_rTenant mTenant_wr mTenant_n uTenant_wr uTenant_n
def vStore (a : TStore) : List C := [cI a.cap, .vw 119 3 1000 [] 0 a.lines.length]
def uStore : Mk TStore := ⟨fun a k => ⟨a.cap, mLine.mkL a.lines (k)⟩, fun a => mLine.nL a.lines⟩
@[simp] theorem uStore_wr (a : TStore) (k : Int) : uStore.wr a k = ⟨a.cap, mLine.mkL a.lines (k)⟩ := rfl
@[simp] theorem uStore_n (a : TStore) : uStore.n a = mLine.nL a.lines := rfl
end Go.Am
-- nbound
namespace Go.Am
open Go.Proofs
set_option maxHeartbeats 4000000
set_option maxRecDepth 100000
attribute [-simp] BitVec.toNat_or BitVec.toNat_and BitVec.toNat_ofInt
attribute [-simp] rIS_len sIS_len shr_rIS shr_sIS shrs_rIS shrs_sIS noSh_rIS rISS_len sISS_len shr_rISS shr_sISS shrs_rISS shrs_sISS noSh_rISS rGram_len sGram_len shr_rGram shr_sGram shrs_rGram shrs_sGram noSh_rGram mGram_wr mGram_n cS_t cS_f row20_len row20_sc row20_view row20_store row20_aff row20_ref row20_noSh row20_shr row20_lend row20_take row20_drop rB_len setR_noSh
theorem nL_le {α : Type} (M : Mk α) (w : α → Nat) (h : ∀ x, M.n x ≤ 16 * (1 + w x)) : ∀ xs : List α, M.nL xs ≤ 16 * wL w xs
  | [] => by simp [Mk.nL, wL]
  | x :: xs => by
    have h1 := h x
    have h2 := nL_le M w h xs
    simp only [Mk.nL, wL]
    omega
theorem nI_le (xs : List Int) : mI.nL xs ≤ 16 * wL w0 xs := nL_le mI w0 (fun x => by simp [mI]; omega) xs
theorem nSlot_le (xs : List TSlot) : mSlot.nL xs ≤ 16 * wL wSlot xs := nL_le _ _ (fun x => by rw [mSlot_n]; omega) xs
theorem nErr_le (xs : List TErr) : mErr.nL xs ≤ 16 * wL wErr xs := nL_le _ _ (fun x => by rw [mErr_n]; omega) xs
theorem nOutcome_le (xs : List TOutcome) : mOutcome.nL xs ≤ 16 * wL wOutcome xs := nL_le _ _ (fun x => by rw [mOutcome_n]; omega) xs
theorem nNode_le (xs : List TNode) : mNode.nL xs ≤ 16 * wL wNode xs := nL_le _ _ (fun x => by
  rw [mNode_n]
  have := nI_le x.kids
  simp only [wNode]
  omega) xs
theorem nJob_le (xs : List TJob) : mJob.nL xs ≤ 16 * wL wJob xs := nL_le _ _ (fun x => by
  rw [mJob_n]
  have h1 := nI_le x.input
  have h2 := nSlot_le x.run.slots
  have h3 := nNode_le x.run.tree.nodes
  have h4 := nErr_le x.run.errs
  simp only [wJob, wRun, wTree]
  omega) xs
theorem uTenant_le (a : TTenant) : uTenant.n a ≤ 16 * wTenant a := by
  rw [uTenant_n]
  have h1 := nJob_le a.queue
  have h2 := nOutcome_le a.out
  simp only [wTenant]
  omega
@[simp] theorem noSh_sOutcome (xs : List TOutcome) : noShRows (xs.map sOutcome) = true := noSh_rOutcome xs
@[simp] theorem noSh_sSlot (xs : List TSlot) : noShRows (xs.map sSlot) = true := noSh_rSlot xs
@[simp] theorem noSh_sErr (xs : List TErr) : noShRows (xs.map sErr) = true := noSh_rErr xs
@[simp] theorem noSh_tenant (a : TTenant) : noShRow (rTenant a) = true := by simp [rTenant]
end Go.Am
-- IntSS_to
namespace Go.Am
open Go.Proofs
set_option maxHeartbeats 4000000
set_option maxRecDepth 100000
attribute [-simp] BitVec.toNat_or BitVec.toNat_and BitVec.toNat_ofInt
attribute [-simp] rConf_len sConf_len shr_rConf shr_sConf shrs_rConf shrs_sConf noSh_rConf mConf_wr mConf_n rISS_len sISS_len shr_rISS shr_sISS shrs_rISS shrs_sISS noSh_rISS rGram_len sGram_len shr_rGram shr_sGram shrs_rGram shrs_sGram noSh_rGram mGram_wr mGram_n cS_t cS_f row20_len row20_sc row20_view row20_store row20_aff row20_ref row20_noSh row20_shr row20_lend row20_take row20_drop rB_len setR_noSh rErr_len sErr_len shr_rErr shr_sErr shrs_rErr shrs_sErr noSh_rErr mErr_wr mErr_n rSlot_len sSlot_len shr_rSlot shr_sSlot shrs_rSlot shrs_sSlot noSh_rSlot mSlot_wr mSlot_n rNode_len sNode_len shr_rNode shr_sNode shrs_rNode shrs_sNode noSh_rNode mNode_wr mNode_n rTree_len sTree_len shr_rTree shr_sTree shrs_rTree shrs_sTree noSh_rTree mTree_wr mTree_n rRun_len sRun_len shr_rRun shr_sRun shrs_rRun shrs_sRun noSh_rRun mRun_wr mRun_n rJob_len sJob_len shr_rJob shr_sJob shrs_rJob shrs_sJob noSh_rJob mJob_wr mJob_n rOutcome_len sOutcome_len shr_rOutcome shr_sOutcome shrs_rOutcome shrs_sOutcome noSh_rOutcome mOutcome_wr mOutcome_n rTenant_len sTenant_len shr_rTenant shr_sTenant shrs_rTenant shrs_sTenant noSh_rTenant mTenant_wr mTenant_n uTenant_wr uTenant_n rLine_len sLine_len shr_rLine shr_sLine shrs_rLine shrs_sLine noSh_rLine mLine_wr mLine_n rStore_len sStore_len shr_rStore shr_sStore shrs_rStore shrs_sStore noSh_rStore mStore_wr mStore_n uStore_wr uStore_n noSh_sOutcome noSh_sSlot noSh_sErr noSh_tenant
-- 111 loop.example/g00485/laws.toIntSS
def k_laws_toIntSS : K :=
 .seq (
  .reg none [⟨(some 2), none, .asn (.c (.ar true 34 1 []))⟩]) (
 .seq (
  .reg none [⟨(some 5), none, .mv (.t 0)⟩,
    ⟨(some 6), none, .len (.t 5)⟩,
    ⟨(some 7), none, .mks 34 1 24 [(.ar true 3 1 [])] (.t 6) (.t 6)⟩,
    ⟨(some 3), none, .asn (.t 7)⟩]) (
 .seq (
  .seq (
   .reg none [⟨(some 4), none, .asn (.c (.int .i64 (0)))⟩]) (
  .block 0 (
   .loop (some ([0, 3, 4], [0, 3, 4, 1000])) (
    .seq (
     .seq (
      .reg none [⟨(some 8), none, .mv (.t 4)⟩,
        ⟨(some 9), none, .mv (.t 0)⟩,
        ⟨(some 10), none, .len (.t 9)⟩,
        ⟨(some 11), none, .bin .lss (.t 8) (.t 10)⟩]) (
     .cond (.t 11) (
      .skip) (
      .exit 0))) (
    .seq (
     .block 1 (
      .reg none [⟨(some 14), none, .mv (.t 3)⟩,
        ⟨(some 15), none, .mv (.t 4)⟩,
        ⟨(some 16), none, .mv (.t 0)⟩,
        ⟨(some 17), none, .mv (.t 4)⟩,
        ⟨(some 18), none, .iad 1 (.t 16) (.t 17)⟩,
        ⟨(some 19), none, .ld 1 false (.t 18)⟩,
        ⟨(some 20), none, .call 18 [(.t 19)]⟩,
        ⟨(some 21), none, .iad 1 (.t 14) (.t 15)⟩,
        ⟨none, none, .st 1 false (.t 21) (.t 20)⟩])) (
    .reg none [⟨(some 12), none, .mv (.t 4)⟩,
      ⟨(some 13), none, .bin .add (.t 12) (.c (.int .i64 (1)))⟩,
      ⟨(some 4), none, .asn (.t 13)⟩])))))) (
 .seq (
  .reg none [⟨(some 22), none, .mv (.t 3)⟩,
    ⟨(some 2), none, .asn (.t 22)⟩]) (
 .ret))))
def r_laws_toIntSS : Nat × List RV := (23, [.t 2])

theorem c_laws_toIntSS : cmpS PT PF PA (Try.prog.funcs[111]?) = some (r_laws_toIntSS.1, r_laws_toIntSS.2, stripK k_laws_toIntSS) := by kernel_rfl

theorem h_toIntSS (xs : List (List Int)) (hx : wL (wL w0) xs < 2 ^ 31) : CallsF Try.prog 111 [.one (.ar false 0 1 (xs.map sIS))] (.one (.ar true 34 1 (xs.map rIS))) := by
  refine Prun c_laws_toIntSS (by simp [r_laws_toIntSS]) (by simp) ?_
  unfold k_laws_toIntSS r_laws_toIntSS
  have hlen := wL_len (wL w0) xs
  have hc : ((xs.length : Int) ≤ 4294967296) := by omega
  simp [hc]
  refine awp_loop (fun n σ => ∃ i : Nat, i ≤ xs.length ∧ n = xs.length - i ∧ σ = ⟨[(0, .one (.ar false 0 1 (xs.map sIS))), (3, .one (.vw 34 1 3 [] 0 xs.length)), (4, aI i)], [(3, ⟨34, 1, part rIS zIS xs i⟩)]⟩) (xs.length) ⟨0, by simp [part_zero, zIS]⟩ ?_
  rintro n σ ⟨i, hi, rfl, rfl⟩
  by_cases h : i < xs.length
  · have hw := wL_get (wL w0) xs i h
    have := part_set (r := rIS) (z := zIS) h
    simp [h, sIS]
    refine callG_F (h_toIntS xs[i] (by omega)) (by simp) ?_
    simp [h, part_get h, rIS, zIS]
    refine ⟨xs.length - (i + 1), by omega, i + 1, by omega, rfl, ?_⟩
    rw [wrapI (by omega) (by omega)]
    simp only [rIS, zIS] at this
    simp [rIS, zIS, this]
  · have : i = xs.length := by omega
    subst this
    simp [part_all]
end Go.Am
-- IntSSS_to
namespace Go.Am
open Go.Proofs
set_option maxHeartbeats 4000000
set_option maxRecDepth 100000
attribute [-simp] BitVec.toNat_or BitVec.toNat_and BitVec.toNat_ofInt
attribute [-simp] rConf_len sConf_len shr_rConf shr_sConf shrs_rConf shrs_sConf noSh_rConf mConf_wr mConf_n rGram_len sGram_len shr_rGram shr_sGram shrs_rGram shrs_sGram noSh_rGram mGram_wr mGram_n cS_t cS_f row20_len row20_sc row20_view row20_store row20_aff row20_ref row20_noSh row20_shr row20_lend row20_take row20_drop rB_len setR_noSh rErr_len sErr_len shr_rErr shr_sErr shrs_rErr shrs_sErr noSh_rErr mErr_wr mErr_n rSlot_len sSlot_len shr_rSlot shr_sSlot shrs_rSlot shrs_sSlot noSh_rSlot mSlot_wr mSlot_n rNode_len sNode_len shr_rNode shr_sNode shrs_rNode shrs_sNode noSh_rNode mNode_wr mNode_n rTree_len sTree_len shr_rTree shr_sTree shrs_rTree shrs_sTree noSh_rTree mTree_wr mTree_n rRun_len sRun_len shr_rRun shr_sRun shrs_rRun shrs_sRun noSh_rRun mRun_wr mRun_n rJob_len sJob_len shr_rJob shr_sJob shrs_rJob shrs_sJob noSh_rJob mJob_wr mJob_n rOutcome_len sOutcome_len shr_rOutcome shr_sOutcome shrs_rOutcome shrs_sOutcome noSh_rOutcome mOutcome_wr mOutcome_n rTenant_len sTenant_len shr_rTenant shr_sTenant shrs_rTenant shrs_sTenant noSh_rTenant mTenant_wr mTenant_n uTenant_wr uTenant_n rLine_len sLine_len shr_rLine shr_sLine shrs_rLine shrs_sLine noSh_rLine mLine_wr mLine_n rStore_len sStore_len shr_rStore shr_sStore shrs_rStore shrs_sStore noSh_rStore mStore_wr mStore_n uStore_wr uStore_n noSh_sOutcome noSh_sSlot noSh_sErr noSh_tenant
-- 57 loop.example/g00485/laws.toIntSSS
def k_laws_toIntSSS : K :=
 .seq (
  .reg none [⟨(some 2), none, .asn (.c (.ar true 90 1 []))⟩]) (
 .seq (
  .reg none [⟨(some 5), none, .mv (.t 0)⟩,
    ⟨(some 6), none, .len (.t 5)⟩,
    ⟨(some 7), none, .mks 90 1 24 [(.ar true 34 1 [])] (.t 6) (.t 6)⟩,
    ⟨(some 3), none, .asn (.t 7)⟩]) (
 .seq (
  .seq (
   .reg none [⟨(some 4), none, .asn (.c (.int .i64 (0)))⟩]) (
  .block 0 (
   .loop (some ([0, 3, 4], [0, 3, 4, 1000])) (
    .seq (
     .seq (
      .reg none [⟨(some 8), none, .mv (.t 4)⟩,
        ⟨(some 9), none, .mv (.t 0)⟩,
        ⟨(some 10), none, .len (.t 9)⟩,
        ⟨(some 11), none, .bin .lss (.t 8) (.t 10)⟩]) (
     .cond (.t 11) (
      .skip) (
      .exit 0))) (
    .seq (
     .block 1 (
      .reg none [⟨(some 14), none, .mv (.t 3)⟩,
        ⟨(some 15), none, .mv (.t 4)⟩,
        ⟨(some 16), none, .mv (.t 0)⟩,
        ⟨(some 17), none, .mv (.t 4)⟩,
        ⟨(some 18), none, .iad 1 (.t 16) (.t 17)⟩,
        ⟨(some 19), none, .ld 1 false (.t 18)⟩,
        ⟨(some 20), none, .call 111 [(.t 19)]⟩,
        ⟨(some 21), none, .iad 1 (.t 14) (.t 15)⟩,
        ⟨none, none, .st 1 false (.t 21) (.t 20)⟩])) (
    .reg none [⟨(some 12), none, .mv (.t 4)⟩,
      ⟨(some 13), none, .bin .add (.t 12) (.c (.int .i64 (1)))⟩,
      ⟨(some 4), none, .asn (.t 13)⟩])))))) (
 .seq (
  .reg none [⟨(some 22), none, .mv (.t 3)⟩,
    ⟨(some 2), none, .asn (.t 22)⟩]) (
 .ret))))
def r_laws_toIntSSS : Nat × List RV := (23, [.t 2])

theorem c_laws_toIntSSS : cmpS PT PF PA (Try.prog.funcs[57]?) = some (r_laws_toIntSSS.1, r_laws_toIntSSS.2, stripK k_laws_toIntSSS) := by kernel_rfl

theorem h_toIntSSS (xs : List (List (List Int))) (hx : wL (wL (wL w0)) xs < 2 ^ 31) : CallsF Try.prog 57 [.one (.ar false 0 1 (xs.map sISS))] (.one (.ar true 90 1 (xs.map rISS))) := by
  refine Prun c_laws_toIntSSS (by simp [r_laws_toIntSSS]) (by simp) ?_
  unfold k_laws_toIntSSS r_laws_toIntSSS
  have hlen := wL_len (wL (wL w0)) xs
  have hc : ((xs.length : Int) ≤ 4294967296) := by omega
  simp [hc]
  refine awp_loop (fun n σ => ∃ i : Nat, i ≤ xs.length ∧ n = xs.length - i ∧ σ = ⟨[(0, .one (.ar false 0 1 (xs.map sISS))), (3, .one (.vw 90 1 3 [] 0 xs.length)), (4, aI i)], [(3, ⟨90, 1, part rISS zISS xs i⟩)]⟩) (xs.length) ⟨0, by simp [part_zero, zISS]⟩ ?_
  rintro n σ ⟨i, hi, rfl, rfl⟩
  by_cases h : i < xs.length
  · have hw := wL_get (wL (wL w0)) xs i h
    have := part_set (r := rISS) (z := zISS) h
    simp [h, sISS]
    refine callG_F (h_toIntSS xs[i] (by omega)) (by simp) ?_
    simp [h, part_get h, rISS, zISS]
    refine ⟨xs.length - (i + 1), by omega, i + 1, by omega, rfl, ?_⟩
    rw [wrapI (by omega) (by omega)]
    simp only [rISS, zISS] at this
    simp [rISS, zISS, this]
  · have : i = xs.length := by omega
    subst this
    simp [part_all]
end Go.Am
-- Gram_to1
namespace Go.Am
open Go.Proofs
set_option maxHeartbeats 4000000
set_option maxRecDepth 100000
attribute [-simp] BitVec.toNat_or BitVec.toNat_and BitVec.toNat_ofInt
attribute [-simp] rConf_len sConf_len shr_rConf shr_sConf shrs_rConf shrs_sConf noSh_rConf mConf_wr mConf_n cS_t cS_f row20_len row20_sc row20_view row20_store row20_aff row20_ref row20_noSh row20_shr row20_lend row20_take row20_drop rB_len setR_noSh rErr_len sErr_len shr_rErr shr_sErr shrs_rErr shrs_sErr noSh_rErr mErr_wr mErr_n rSlot_len sSlot_len shr_rSlot shr_sSlot shrs_rSlot shrs_sSlot noSh_rSlot mSlot_wr mSlot_n rNode_len sNode_len shr_rNode shr_sNode shrs_rNode shrs_sNode noSh_rNode mNode_wr mNode_n rTree_len sTree_len shr_rTree shr_sTree shrs_rTree shrs_sTree noSh_rTree mTree_wr mTree_n rRun_len sRun_len shr_rRun shr_sRun shrs_rRun shrs_sRun noSh_rRun mRun_wr mRun_n rJob_len sJob_len shr_rJob shr_sJob shrs_rJob shrs_sJob noSh_rJob mJob_wr mJob_n rOutcome_len sOutcome_len shr_rOutcome shr_sOutcome shrs_rOutcome shrs_sOutcome noSh_rOutcome mOutcome_wr mOutcome_n rTenant_len sTenant_len shr_rTenant shr_sTenant shrs_rTenant shrs_sTenant noSh_rTenant mTenant_wr mTenant_n uTenant_wr uTenant_n rLine_len sLine_len shr_rLine shr_sLine shrs_rLine shrs_sLine noSh_rLine mLine_wr mLine_n rStore_len sStore_len shr_rStore shr_sStore shrs_rStore shrs_sStore noSh_rStore mStore_wr mStore_n uStore_wr uStore_n noSh_sOutcome noSh_sSlot noSh_sErr noSh_tenant
-- 17 loop.example/g00485/laws.toGram
def k_laws_toGram : K :=
 .seq (
  .reg none [⟨(some 1), none, .box 33 1 (.t 0)⟩,
    ⟨(some 2), none, .alc 39 1 [(.ar true 90 1 [])]⟩]) (
 .seq (
  .reg none [⟨(some 3), none, .alc 39 1 [(.ar true 90 1 [])]⟩]) (
 .seq (
  .reg none [⟨(some 4), none, .fad 0 (.t 1)⟩,
    ⟨(some 5), none, .ld 1 false (.t 4)⟩,
    ⟨(some 6), none, .call 57 [(.t 5)]⟩,
    ⟨(some 7), none, .fad 0 (.t 3)⟩,
    ⟨none, none, .st 1 false (.t 7) (.t 6)⟩]) (
 .seq (
  .reg none [⟨(some 8), none, .ld 1 true (.t 3)⟩,
    ⟨none, none, .st 1 false (.t 2) (.t 8)⟩]) (
 .ret))))
def r_laws_toGram : Nat × List RV := (9, [.c 2 1 true])

theorem c_laws_toGram : cmpS PT PF PA (Try.prog.funcs[17]?) = some (r_laws_toGram.1, r_laws_toGram.2, stripK k_laws_toGram) := by kernel_rfl

theorem h_toGram (a : TGram) (ha : wGram a < 2 ^ 31) : CallsF Try.prog 17 [.agg (sGram a)] (.agg (rGram a)) := by
  refine Prun c_laws_toGram (by simp [r_laws_toGram]) (by simp) ?_
  unfold k_laws_toGram r_laws_toGram
  simp only [wGram] at ha
  simp [sGram]
  refine callG_F (h_toIntSSS a.parts (by omega)) (by simp) ?_
  simp [rGram]
end Go.Am
-- intm
namespace Go.Am
open Go.Proofs
set_option maxHeartbeats 4000000
set_option maxRecDepth 100000
attribute [-simp] BitVec.toNat_or BitVec.toNat_and BitVec.toNat_ofInt
attribute [-simp] rConf_len sConf_len shr_rConf shr_sConf shrs_rConf shrs_sConf noSh_rConf mConf_wr mConf_n rIS_len sIS_len shr_rIS shr_sIS shrs_rIS shrs_sIS noSh_rIS rISS_len sISS_len shr_rISS shr_sISS shrs_rISS shrs_sISS noSh_rISS rGram_len sGram_len shr_rGram shr_sGram shrs_rGram shrs_sGram noSh_rGram mGram_wr mGram_n cS_t cS_f row20_len row20_sc row20_view row20_store row20_aff row20_ref row20_noSh row20_shr row20_lend row20_take row20_drop rB_len setR_noSh rErr_len sErr_len shr_rErr shr_sErr shrs_rErr shrs_sErr noSh_rErr mErr_wr mErr_n rSlot_len sSlot_len shr_rSlot shr_sSlot shrs_rSlot shrs_sSlot noSh_rSlot mSlot_wr mSlot_n rNode_len sNode_len shr_rNode shr_sNode shrs_rNode shrs_sNode noSh_rNode mNode_wr mNode_n rTree_len sTree_len shr_rTree shr_sTree shrs_rTree shrs_sTree noSh_rTree mTree_wr mTree_n rRun_len sRun_len shr_rRun shr_sRun shrs_rRun shrs_sRun noSh_rRun mRun_wr mRun_n rJob_len sJob_len shr_rJob shr_sJob shrs_rJob shrs_sJob noSh_rJob mJob_wr mJob_n rOutcome_len sOutcome_len shr_rOutcome shr_sOutcome shrs_rOutcome shrs_sOutcome noSh_rOutcome mOutcome_wr mOutcome_n rTenant_len sTenant_len shr_rTenant shr_sTenant shrs_rTenant shrs_sTenant noSh_rTenant mTenant_wr mTenant_n uTenant_wr uTenant_n rLine_len sLine_len shr_rLine shr_sLine shrs_rLine shrs_sLine noSh_rLine mLine_wr mLine_n rStore_len sStore_len shr_rStore shr_sStore shrs_rStore shrs_sStore noSh_rStore mStore_wr mStore_n uStore_wr uStore_n noSh_sOutcome noSh_sSlot noSh_sErr noSh_tenant
-- 127 loop.example/g00485/laws.szIntS
def k_laws_szIntS : K :=
 .seq (
  .reg none [⟨(some 4), none, .asn (.c (.int .i64 (0)))⟩]) (
 .seq (
  .reg none [⟨(some 5), none, .mv (.t 1)⟩,
    ⟨(some 6), none, .mv (.t 0)⟩,
    ⟨(some 7), none, .len (.t 6)⟩,
    ⟨(some 8), none, .bin .sub (.t 5) (.t 7)⟩,
    ⟨(some 1), none, .asn (.t 8)⟩]) (
 .seq (
  .seq (
   .reg none [⟨(some 9), none, .mv (.t 1)⟩,
     ⟨(some 10), none, .bin .lss (.t 9) (.c (.int .i64 (0)))⟩]) (
  .cond (.t 10) (
   .seq (
    .reg none [⟨(some 4), none, .asn (.c (.int .i64 (-1)))⟩]) (
   .ret)) (
   .skip))) (
 .seq (
  .reg none [⟨(some 11), none, .mv (.t 1)⟩,
    ⟨(some 4), none, .asn (.t 11)⟩]) (
 .ret))))
def r_laws_szIntS : Nat × List RV := (12, [.t 4])

theorem c_laws_szIntS : cmpS PT PF PA (Try.prog.funcs[127]?) = some (r_laws_szIntS.1, r_laws_szIntS.2, stripK k_laws_szIntS) := by kernel_rfl

theorem h_szIntS (xs : List Int) (left : Int) (h : lL l0 xs) (h2 : 0 ≤ left) (h3 : left < 2 ^ 40) : CallsF Try.prog 127 [.one (.ar false 0 1 (xs.map rI)), aI left] (aI (lft left (wL w0 xs))) := by
  refine Prun c_laws_szIntS (by simp [r_laws_szIntS]) (by simp) ?_
  unfold k_laws_szIntS r_laws_szIntS
  have h := h.1
  rw [wL_w0, lft]
  have hw : IntKind.i64.wrap (left - xs.length) = left - xs.length := wrapI (by omega) (by omega)
  by_cases h : left - xs.length < 0
  · simp [hw, h]
  · simp [hw, h]
end Go.Am
-- IntSS_sz
namespace Go.Am
open Go.Proofs
set_option maxHeartbeats 4000000
set_option maxRecDepth 100000
attribute [-simp] BitVec.toNat_or BitVec.toNat_and BitVec.toNat_ofInt
attribute [-simp] rConf_len sConf_len shr_rConf shr_sConf shrs_rConf shrs_sConf noSh_rConf mConf_wr mConf_n rISS_len sISS_len shr_rISS shr_sISS shrs_rISS shrs_sISS noSh_rISS rGram_len sGram_len shr_rGram shr_sGram shrs_rGram shrs_sGram noSh_rGram mGram_wr mGram_n cS_t cS_f row20_len row20_sc row20_view row20_store row20_aff row20_ref row20_noSh row20_shr row20_lend row20_take row20_drop rB_len setR_noSh rErr_len sErr_len shr_rErr shr_sErr shrs_rErr shrs_sErr noSh_rErr mErr_wr mErr_n rSlot_len sSlot_len shr_rSlot shr_sSlot shrs_rSlot shrs_sSlot noSh_rSlot mSlot_wr mSlot_n rNode_len sNode_len shr_rNode shr_sNode shrs_rNode shrs_sNode noSh_rNode mNode_wr mNode_n rTree_len sTree_len shr_rTree shr_sTree shrs_rTree shrs_sTree noSh_rTree mTree_wr mTree_n rRun_len sRun_len shr_rRun shr_sRun shrs_rRun shrs_sRun noSh_rRun mRun_wr mRun_n rJob_len sJob_len shr_rJob shr_sJob shrs_rJob shrs_sJob noSh_rJob mJob_wr mJob_n rOutcome_len sOutcome_len shr_rOutcome shr_sOutcome shrs_rOutcome shrs_sOutcome noSh_rOutcome mOutcome_wr mOutcome_n rTenant_len sTenant_len shr_rTenant shr_sTenant shrs_rTenant shrs_sTenant noSh_rTenant mTenant_wr mTenant_n uTenant_wr uTenant_n rLine_len sLine_len shr_rLine shr_sLine shrs_rLine shrs_sLine noSh_rLine mLine_wr mLine_n rStore_len sStore_len shr_rStore shr_sStore shrs_rStore shrs_sStore noSh_rStore mStore_wr mStore_n uStore_wr uStore_n noSh_sOutcome noSh_sSlot noSh_sErr noSh_tenant
-- 104 loop.example/g00485/laws.szIntSS
def k_laws_szIntSS : K :=
 .seq (
  .reg none [⟨(some 4), none, .asn (.c (.int .i64 (0)))⟩]) (
 .seq (
  .reg none [⟨(some 6), none, .mv (.t 1)⟩,
    ⟨(some 7), none, .mv (.t 0)⟩,
    ⟨(some 8), none, .len (.t 7)⟩,
    ⟨(some 9), none, .bin .sub (.t 6) (.t 8)⟩,
    ⟨(some 1), none, .asn (.t 9)⟩]) (
 .seq (
  .seq (
   .reg none [⟨(some 10), none, .mv (.t 1)⟩,
     ⟨(some 11), none, .bin .lss (.t 10) (.c (.int .i64 (0)))⟩]) (
  .cond (.t 11) (
   .seq (
    .reg none [⟨(some 4), none, .asn (.c (.int .i64 (-1)))⟩]) (
   .ret)) (
   .skip))) (
 .seq (
  .seq (
   .reg none [⟨(some 5), none, .asn (.c (.int .i64 (0)))⟩]) (
  .block 0 (
   .loop (some ([0, 1, 5], [0, 1, 5, 1000])) (
    .seq (
     .seq (
      .reg none [⟨(some 12), none, .mv (.t 5)⟩,
        ⟨(some 13), none, .mv (.t 0)⟩,
        ⟨(some 14), none, .len (.t 13)⟩,
        ⟨(some 15), none, .bin .lss (.t 12) (.t 14)⟩]) (
     .cond (.t 15) (
      .skip) (
      .exit 0))) (
    .seq (
     .block 1 (
      .seq (
       .reg none [⟨(some 18), none, .mv (.t 0)⟩,
         ⟨(some 19), none, .mv (.t 5)⟩,
         ⟨(some 20), none, .iad 1 (.t 18) (.t 19)⟩,
         ⟨(some 21), none, .ld 1 false (.t 20)⟩,
         ⟨(some 22), none, .mv (.t 1)⟩,
         ⟨(some 23), none, .call 127 [(.t 21), (.t 22)]⟩,
         ⟨(some 1), none, .asn (.t 23)⟩]) (
      .seq (
       .reg none [⟨(some 24), none, .mv (.t 1)⟩,
         ⟨(some 25), none, .bin .lss (.t 24) (.c (.int .i64 (0)))⟩]) (
      .cond (.t 25) (
       .seq (
        .reg none [⟨(some 4), none, .asn (.c (.int .i64 (-1)))⟩]) (
       .ret)) (
       .skip))))) (
    .reg none [⟨(some 16), none, .mv (.t 5)⟩,
      ⟨(some 17), none, .bin .add (.t 16) (.c (.int .i64 (1)))⟩,
      ⟨(some 5), none, .asn (.t 17)⟩])))))) (
 .seq (
  .reg none [⟨(some 26), none, .mv (.t 1)⟩,
    ⟨(some 4), none, .asn (.t 26)⟩]) (
 .ret)))))
def r_laws_szIntSS : Nat × List RV := (27, [.t 4])

theorem c_laws_szIntSS : cmpS PT PF PA (Try.prog.funcs[104]?) = some (r_laws_szIntSS.1, r_laws_szIntSS.2, stripK k_laws_szIntSS) := by kernel_rfl

theorem h_szIntSS (xs : List (List Int)) (left : Int) (hl : lL (lL l0) xs) (h2 : 0 ≤ left) (h3 : left < 2 ^ 40) : CallsF Try.prog 104 [.one (.ar false 0 1 (xs.map sIS)), aI left] (aI (lft left (wL (wL w0) xs))) := by
  refine Prun c_laws_szIntSS (by simp [r_laws_szIntSS]) (by simp) ?_
  unfold k_laws_szIntSS r_laws_szIntSS
  have hlen := hl.1
  have hlw := wL_len (wL w0) xs
  have w1 : IntKind.i64.wrap (left - xs.length) = left - xs.length := wrapI (by omega) (by omega)
  by_cases h1 : left - (xs.length : Int) < 0
  · rw [lft_neg (by omega)]
    simp [w1, h1]
  simp [w1, h1]
  refine awp_loop (fun n σ => ∃ i : Nat, i ≤ xs.length ∧ n = xs.length - i ∧ (wL (wL w0) (xs.take i) : Int) - i ≤ left - xs.length ∧ σ = ⟨[(0, .one (.ar false 0 1 (xs.map sIS))), (1, aI (left - xs.length - ((wL (wL w0) (xs.take i) : Int) - i))), (5, aI i)], []⟩) (xs.length) ⟨0, by simp [wL]; omega⟩ ?_
  rintro n σ ⟨i, hi, rfl, hle, rfl⟩
  have hge := wL_len (wL w0) (xs.take i)
  rw [List.length_take, Nat.min_eq_left hi] at hge
  by_cases h : i < xs.length
  · have hst := wL_take (wL w0) h
    have hle2 := wL_take_le (wL w0) xs (i + 1)
    have hlen2 := wL_len (wL w0) (xs.drop (i + 1))
    have happ := wL_append (wL w0) (xs.take (i + 1)) (xs.drop (i + 1))
    rw [List.take_append_drop] at happ
    rw [List.length_drop] at hlen2
    simp [h, sIS]
    refine callG_F (h_szIntS xs[i] _ (hl.2 i h) (by omega) (by omega)) (by simp) ?_
    generalize hv : left - (xs.length : Int) - ((wL (wL w0) (xs.take i) : Int) - i) = v at *
    by_cases h4 : v < ((wL w0) xs[i] : Int)
    · simp only [lft_neg h4]
      rw [lft_neg (by omega)]
      simp
    · have e : lft v ((wL w0) xs[i]) = v - (wL w0) xs[i] := lft_pos (by omega)
      have n1 : ¬ v - ((wL w0) xs[i] : Int) < 0 := by omega
      simp [e, n1]
      refine ⟨xs.length - (i + 1), by omega, i + 1, by omega, rfl, by omega, ?_⟩
      rw [wrapI (by omega) (by omega)]
      simp; omega
  · have : i = xs.length := by omega
    subst this
    rw [List.take_length] at hle
    rw [lft_pos (by omega)]
    simp
    omega
end Go.Am
-- IntSSS_sz
namespace Go.Am
open Go.Proofs
set_option maxHeartbeats 4000000
set_option maxRecDepth 100000
attribute [-simp] BitVec.toNat_or BitVec.toNat_and BitVec.toNat_ofInt
attribute [-simp] rConf_len sConf_len shr_rConf shr_sConf shrs_rConf shrs_sConf noSh_rConf mConf_wr mConf_n rGram_len sGram_len shr_rGram shr_sGram shrs_rGram shrs_sGram noSh_rGram mGram_wr mGram_n cS_t cS_f row20_len row20_sc row20_view row20_store row20_aff row20_ref row20_noSh row20_shr row20_lend row20_take row20_drop rB_len setR_noSh rErr_len sErr_len shr_rErr shr_sErr shrs_rErr shrs_sErr noSh_rErr mErr_wr mErr_n rSlot_len sSlot_len shr_rSlot shr_sSlot shrs_rSlot shrs_sSlot noSh_rSlot mSlot_wr mSlot_n rNode_len sNode_len shr_rNode shr_sNode shrs_rNode shrs_sNode noSh_rNode mNode_wr mNode_n rTree_len sTree_len shr_rTree shr_sTree shrs_rTree shrs_sTree noSh_rTree mTree_wr mTree_n rRun_len sRun_len shr_rRun shr_sRun shrs_rRun shrs_sRun noSh_rRun mRun_wr mRun_n rJob_len sJob_len shr_rJob shr_sJob shrs_rJob shrs_sJob noSh_rJob mJob_wr mJob_n rOutcome_len sOutcome_len shr_rOutcome shr_sOutcome shrs_rOutcome shrs_sOutcome noSh_rOutcome mOutcome_wr mOutcome_n rTenant_len sTenant_len shr_rTenant shr_sTenant shrs_rTenant shrs_sTenant noSh_rTenant mTenant_wr mTenant_n uTenant_wr uTenant_n rLine_len sLine_len shr_rLine shr_sLine shrs_rLine shrs_sLine noSh_rLine mLine_wr mLine_n rStore_len sStore_len shr_rStore shr_sStore shrs_rStore shrs_sStore noSh_rStore mStore_wr mStore_n uStore_wr uStore_n noSh_sOutcome noSh_sSlot noSh_sErr noSh_tenant
-- 52 loop.example/g00485/laws.szIntSSS
def k_laws_szIntSSS : K :=
 .seq (
  .reg none [⟨(some 4), none, .asn (.c (.int .i64 (0)))⟩]) (
 .seq (
  .reg none [⟨(some 6), none, .mv (.t 1)⟩,
    ⟨(some 7), none, .mv (.t 0)⟩,
    ⟨(some 8), none, .len (.t 7)⟩,
    ⟨(some 9), none, .bin .sub (.t 6) (.t 8)⟩,
    ⟨(some 1), none, .asn (.t 9)⟩]) (
 .seq (
  .seq (
   .reg none [⟨(some 10), none, .mv (.t 1)⟩,
     ⟨(some 11), none, .bin .lss (.t 10) (.c (.int .i64 (0)))⟩]) (
  .cond (.t 11) (
   .seq (
    .reg none [⟨(some 4), none, .asn (.c (.int .i64 (-1)))⟩]) (
   .ret)) (
   .skip))) (
 .seq (
  .seq (
   .reg none [⟨(some 5), none, .asn (.c (.int .i64 (0)))⟩]) (
  .block 0 (
   .loop (some ([0, 1, 5], [0, 1, 5, 1000])) (
    .seq (
     .seq (
      .reg none [⟨(some 12), none, .mv (.t 5)⟩,
        ⟨(some 13), none, .mv (.t 0)⟩,
        ⟨(some 14), none, .len (.t 13)⟩,
        ⟨(some 15), none, .bin .lss (.t 12) (.t 14)⟩]) (
     .cond (.t 15) (
      .skip) (
      .exit 0))) (
    .seq (
     .block 1 (
      .seq (
       .reg none [⟨(some 18), none, .mv (.t 0)⟩,
         ⟨(some 19), none, .mv (.t 5)⟩,
         ⟨(some 20), none, .iad 1 (.t 18) (.t 19)⟩,
         ⟨(some 21), none, .ld 1 false (.t 20)⟩,
         ⟨(some 22), none, .mv (.t 1)⟩,
         ⟨(some 23), none, .call 104 [(.t 21), (.t 22)]⟩,
         ⟨(some 1), none, .asn (.t 23)⟩]) (
      .seq (
       .reg none [⟨(some 24), none, .mv (.t 1)⟩,
         ⟨(some 25), none, .bin .lss (.t 24) (.c (.int .i64 (0)))⟩]) (
      .cond (.t 25) (
       .seq (
        .reg none [⟨(some 4), none, .asn (.c (.int .i64 (-1)))⟩]) (
       .ret)) (
       .skip))))) (
    .reg none [⟨(some 16), none, .mv (.t 5)⟩,
      ⟨(some 17), none, .bin .add (.t 16) (.c (.int .i64 (1)))⟩,
      ⟨(some 5), none, .asn (.t 17)⟩])))))) (
 .seq (
  .reg none [⟨(some 26), none, .mv (.t 1)⟩,
    ⟨(some 4), none, .asn (.t 26)⟩]) (
 .ret)))))
def r_laws_szIntSSS : Nat × List RV := (27, [.t 4])

theorem c_laws_szIntSSS : cmpS PT PF PA (Try.prog.funcs[52]?) = some (r_laws_szIntSSS.1, r_laws_szIntSSS.2, stripK k_laws_szIntSSS) := by kernel_rfl

theorem h_szIntSSS (xs : List (List (List Int))) (left : Int) (hl : lL (lL (lL l0)) xs) (h2 : 0 ≤ left) (h3 : left < 2 ^ 40) : CallsF Try.prog 52 [.one (.ar false 0 1 (xs.map sISS)), aI left] (aI (lft left (wL (wL (wL w0)) xs))) := by
  refine Prun c_laws_szIntSSS (by simp [r_laws_szIntSSS]) (by simp) ?_
  unfold k_laws_szIntSSS r_laws_szIntSSS
  have hlen := hl.1
  have hlw := wL_len (wL (wL w0)) xs
  have w1 : IntKind.i64.wrap (left - xs.length) = left - xs.length := wrapI (by omega) (by omega)
  by_cases h1 : left - (xs.length : Int) < 0
  · rw [lft_neg (by omega)]
    simp [w1, h1]
  simp [w1, h1]
  refine awp_loop (fun n σ => ∃ i : Nat, i ≤ xs.length ∧ n = xs.length - i ∧ (wL (wL (wL w0)) (xs.take i) : Int) - i ≤ left - xs.length ∧ σ = ⟨[(0, .one (.ar false 0 1 (xs.map sISS))), (1, aI (left - xs.length - ((wL (wL (wL w0)) (xs.take i) : Int) - i))), (5, aI i)], []⟩) (xs.length) ⟨0, by simp [wL]; omega⟩ ?_
  rintro n σ ⟨i, hi, rfl, hle, rfl⟩
  have hge := wL_len (wL (wL w0)) (xs.take i)
  rw [List.length_take, Nat.min_eq_left hi] at hge
  by_cases h : i < xs.length
  · have hst := wL_take (wL (wL w0)) h
    have hle2 := wL_take_le (wL (wL w0)) xs (i + 1)
    have hlen2 := wL_len (wL (wL w0)) (xs.drop (i + 1))
    have happ := wL_append (wL (wL w0)) (xs.take (i + 1)) (xs.drop (i + 1))
    rw [List.take_append_drop] at happ
    rw [List.length_drop] at hlen2
    simp [h, sISS]
    refine callG_F (h_szIntSS xs[i] _ (hl.2 i h) (by omega) (by omega)) (by simp) ?_
    generalize hv : left - (xs.length : Int) - ((wL (wL (wL w0)) (xs.take i) : Int) - i) = v at *
    by_cases h4 : v < ((wL (wL w0)) xs[i] : Int)
    · simp only [lft_neg h4]
      rw [lft_neg (by omega)]
      simp
    · have e : lft v ((wL (wL w0)) xs[i]) = v - (wL (wL w0)) xs[i] := lft_pos (by omega)
      have n1 : ¬ v - ((wL (wL w0)) xs[i] : Int) < 0 := by omega
      simp [e, n1]
      refine ⟨xs.length - (i + 1), by omega, i + 1, by omega, rfl, by omega, ?_⟩
      rw [wrapI (by omega) (by omega)]
      simp; omega
  · have : i = xs.length := by omega
    subst this
    rw [List.take_length] at hle
    rw [lft_pos (by omega)]
    simp
    omega
end Go.Am
-- Gram_sz1
namespace Go.Am
open Go.Proofs
set_option maxHeartbeats 4000000
set_option maxRecDepth 100000
attribute [-simp] BitVec.toNat_or BitVec.toNat_and BitVec.toNat_ofInt
attribute [-simp] rConf_len sConf_len shr_rConf shr_sConf shrs_rConf shrs_sConf noSh_rConf mConf_wr mConf_n cS_t cS_f row20_len row20_sc row20_view row20_store row20_aff row20_ref row20_noSh row20_shr row20_lend row20_take row20_drop rB_len setR_noSh rErr_len sErr_len shr_rErr shr_sErr shrs_rErr shrs_sErr noSh_rErr mErr_wr mErr_n rSlot_len sSlot_len shr_rSlot shr_sSlot shrs_rSlot shrs_sSlot noSh_rSlot mSlot_wr mSlot_n rNode_len sNode_len shr_rNode shr_sNode shrs_rNode shrs_sNode noSh_rNode mNode_wr mNode_n rTree_len sTree_len shr_rTree shr_sTree shrs_rTree shrs_sTree noSh_rTree mTree_wr mTree_n rRun_len sRun_len shr_rRun shr_sRun shrs_rRun shrs_sRun noSh_rRun mRun_wr mRun_n rJob_len sJob_len shr_rJob shr_sJob shrs_rJob shrs_sJob noSh_rJob mJob_wr mJob_n rOutcome_len sOutcome_len shr_rOutcome shr_sOutcome shrs_rOutcome shrs_sOutcome noSh_rOutcome mOutcome_wr mOutcome_n rTenant_len sTenant_len shr_rTenant shr_sTenant shrs_rTenant shrs_sTenant noSh_rTenant mTenant_wr mTenant_n uTenant_wr uTenant_n rLine_len sLine_len shr_rLine shr_sLine shrs_rLine shrs_sLine noSh_rLine mLine_wr mLine_n rStore_len sStore_len shr_rStore shr_sStore shrs_rStore shrs_sStore noSh_rStore mStore_wr mStore_n uStore_wr uStore_n noSh_sOutcome noSh_sSlot noSh_sErr noSh_tenant
-- 15 loop.example/g00485/laws.szGram
def k_laws_szGram : K :=
 .seq (
  .reg none [⟨(some 2), none, .box 33 1 (.t 0)⟩,
    ⟨(some 4), none, .asn (.c (.int .i64 (0)))⟩]) (
 .seq (
  .reg none [⟨(some 5), none, .fad 0 (.t 2)⟩,
    ⟨(some 6), none, .ld 1 false (.t 5)⟩,
    ⟨(some 7), none, .mv (.t 1)⟩,
    ⟨(some 8), none, .call 52 [(.t 6), (.t 7)]⟩,
    ⟨(some 1), none, .asn (.t 8)⟩]) (
 .seq (
  .seq (
   .reg none [⟨(some 9), none, .mv (.t 1)⟩,
     ⟨(some 10), none, .bin .lss (.t 9) (.c (.int .i64 (0)))⟩]) (
  .cond (.t 10) (
   .seq (
    .reg none [⟨(some 4), none, .asn (.c (.int .i64 (-1)))⟩]) (
   .ret)) (
   .skip))) (
 .seq (
  .reg none [⟨(some 11), none, .mv (.t 1)⟩,
    ⟨(some 4), none, .asn (.t 11)⟩]) (
 .ret))))
def r_laws_szGram : Nat × List RV := (12, [.t 4])

theorem c_laws_szGram : cmpS PT PF PA (Try.prog.funcs[15]?) = some (r_laws_szGram.1, r_laws_szGram.2, stripK k_laws_szGram) := by kernel_rfl

theorem h_szGram (a : TGram) (left : Int) (h : lGram a) (h2 : 0 ≤ left) (h3 : left < 2 ^ 40) : CallsF Try.prog 15 [.agg (sGram a), aI left] (aI (lft left (wGram a))) := by
  refine Prun c_laws_szGram (by simp [r_laws_szGram]) (by simp) ?_
  unfold k_laws_szGram r_laws_szGram
  simp only [lGram] at h
  simp only [wGram]
  have hl0 := h
  simp [sGram]
  refine callG_F (h_szIntSSS a.parts (left) hl0 (by omega) (by omega)) (by simp) ?_
  by_cases g0 : left < (wL (wL (wL w0)) a.parts : Int)
  case pos => simp only [lft_neg g0]; simp; try rw [lft_neg (by omega)]
  simp only [lft_pos (show (wL (wL (wL w0)) a.parts : Int) ≤ left by omega)]
  have n0 : ¬ left - (wL (wL (wL w0)) a.parts : Int) < 0 := by omega
  simp [n0]
  try rw [lft_pos (by omega)]
  try omega
end Go.Am
-- IntSS_eq
namespace Go.Am
open Go.Proofs
set_option maxHeartbeats 4000000
set_option maxRecDepth 100000
attribute [-simp] BitVec.toNat_or BitVec.toNat_and BitVec.toNat_ofInt
attribute [-simp] rConf_len sConf_len shr_rConf shr_sConf shrs_rConf shrs_sConf noSh_rConf mConf_wr mConf_n rISS_len sISS_len shr_rISS shr_sISS shrs_rISS shrs_sISS noSh_rISS rGram_len sGram_len shr_rGram shr_sGram shrs_rGram shrs_sGram noSh_rGram mGram_wr mGram_n cS_t cS_f row20_len row20_sc row20_view row20_store row20_aff row20_ref row20_noSh row20_shr row20_lend row20_take row20_drop rB_len setR_noSh rErr_len sErr_len shr_rErr shr_sErr shrs_rErr shrs_sErr noSh_rErr mErr_wr mErr_n rSlot_len sSlot_len shr_rSlot shr_sSlot shrs_rSlot shrs_sSlot noSh_rSlot mSlot_wr mSlot_n rNode_len sNode_len shr_rNode shr_sNode shrs_rNode shrs_sNode noSh_rNode mNode_wr mNode_n rTree_len sTree_len shr_rTree shr_sTree shrs_rTree shrs_sTree noSh_rTree mTree_wr mTree_n rRun_len sRun_len shr_rRun shr_sRun shrs_rRun shrs_sRun noSh_rRun mRun_wr mRun_n rJob_len sJob_len shr_rJob shr_sJob shrs_rJob shrs_sJob noSh_rJob mJob_wr mJob_n rOutcome_len sOutcome_len shr_rOutcome shr_sOutcome shrs_rOutcome shrs_sOutcome noSh_rOutcome mOutcome_wr mOutcome_n rTenant_len sTenant_len shr_rTenant shr_sTenant shrs_rTenant shrs_sTenant noSh_rTenant mTenant_wr mTenant_n uTenant_wr uTenant_n rLine_len sLine_len shr_rLine shr_sLine shrs_rLine shrs_sLine noSh_rLine mLine_wr mLine_n rStore_len sStore_len shr_rStore shr_sStore shrs_rStore shrs_sStore noSh_rStore mStore_wr mStore_n uStore_wr uStore_n noSh_sOutcome noSh_sSlot noSh_sErr noSh_tenant
-- 117 loop.example/g00485/laws.eqIntSS
def k_laws_eqIntSS : K :=
 .seq (
  .reg none [⟨(some 4), none, .asn (.c (.bool false))⟩]) (
 .seq (
  .seq (
   .reg none [⟨(some 6), none, .mv (.t 0)⟩,
     ⟨(some 7), none, .len (.t 6)⟩,
     ⟨(some 8), none, .mv (.t 1)⟩,
     ⟨(some 9), none, .len (.t 8)⟩,
     ⟨(some 10), none, .bin .neq (.t 7) (.t 9)⟩]) (
  .cond (.t 10) (
   .seq (
    .reg none [⟨(some 4), none, .asn (.c (.bool false))⟩]) (
   .ret)) (
   .skip))) (
 .seq (
  .seq (
   .reg none [⟨(some 5), none, .asn (.c (.int .i64 (0)))⟩]) (
  .block 0 (
   .loop (some ([0, 1, 5], [0, 1, 5, 1000])) (
    .seq (
     .seq (
      .reg none [⟨(some 11), none, .mv (.t 5)⟩,
        ⟨(some 12), none, .mv (.t 0)⟩,
        ⟨(some 13), none, .len (.t 12)⟩,
        ⟨(some 14), none, .bin .lss (.t 11) (.t 13)⟩]) (
     .cond (.t 14) (
      .skip) (
      .exit 0))) (
    .seq (
     .block 1 (
      .seq (
       .drw none 10 [⟨(some 17), none, .mv (.t 0)⟩,
         ⟨(some 18), none, .mv (.t 5)⟩,
         ⟨(some 19), none, .iad 1 (.t 17) (.t 18)⟩,
         ⟨(some 20), none, .ld 1 false (.t 19)⟩,
         ⟨(some 21), none, .mv (.t 1)⟩,
         ⟨(some 22), none, .mv (.t 5)⟩,
         ⟨(some 23), none, .iad 1 (.t 21) (.t 22)⟩,
         ⟨(some 24), none, .ld 1 false (.t 23)⟩,
         ⟨(some 25), none, .call 22 [(.t 20), (.t 24)]⟩,
         ⟨(some 26), none, .not (.t 25)⟩]) (
      .cond (.t 26) (
       .seq (
        .reg none [⟨(some 4), none, .asn (.c (.bool false))⟩]) (
       .ret)) (
       .skip)))) (
    .reg none [⟨(some 15), none, .mv (.t 5)⟩,
      ⟨(some 16), none, .bin .add (.t 15) (.c (.int .i64 (1)))⟩,
      ⟨(some 5), none, .asn (.t 16)⟩])))))) (
 .seq (
  .reg none [⟨(some 4), none, .asn (.c (.bool true))⟩]) (
 .ret))))
def r_laws_eqIntSS : Nat × List RV := (27, [.t 4])

theorem c_laws_eqIntSS : cmpS PT PF PA (Try.prog.funcs[117]?) = some (r_laws_eqIntSS.1, r_laws_eqIntSS.2, stripK k_laws_eqIntSS) := by kernel_rfl

theorem h_eqIntSS (xs : List (List Int)) (hx : wL (wL w0) xs < 2 ^ 40) : CallsF Try.prog 117 [.one (.ar false 0 1 (xs.map sIS)), .one (.ar false 0 1 (xs.map sIS))] (aB true) := by
  refine Prun c_laws_eqIntSS (by simp [r_laws_eqIntSS]) (by simp) ?_
  unfold k_laws_eqIntSS r_laws_eqIntSS
  have hlen := wL_len (wL w0) xs
  simp
  refine awp_loop (fun n σ => ∃ i : Nat, i ≤ xs.length ∧ n = xs.length - i ∧ σ = ⟨[(0, .one (.ar false 0 1 (xs.map sIS))), (1, .one (.ar false 0 1 (xs.map sIS))), (5, aI i)], []⟩) (xs.length) ⟨0, by simp⟩ ?_
  rintro n σ ⟨i, hi, rfl, rfl⟩
  by_cases h : i < xs.length
  · have hw := wL_get (wL w0) xs i h
    simp [h, sIS]
    refine ⟨_, by simp, h_eqIntS xs[i] (by omega), ?_⟩
    simp
    refine ⟨xs.length - (i + 1), by omega, i + 1, by omega, rfl, ?_⟩
    rw [wrapI (by omega) (by omega)]
    simp
  · simp [h]
end Go.Am
-- IntSSS_eq
namespace Go.Am
open Go.Proofs
set_option maxHeartbeats 4000000
set_option maxRecDepth 100000
attribute [-simp] BitVec.toNat_or BitVec.toNat_and BitVec.toNat_ofInt
attribute [-simp] rConf_len sConf_len shr_rConf shr_sConf shrs_rConf shrs_sConf noSh_rConf mConf_wr mConf_n rGram_len sGram_len shr_rGram shr_sGram shrs_rGram shrs_sGram noSh_rGram mGram_wr mGram_n cS_t cS_f row20_len row20_sc row20_view row20_store row20_aff row20_ref row20_noSh row20_shr row20_lend row20_take row20_drop rB_len setR_noSh rErr_len sErr_len shr_rErr shr_sErr shrs_rErr shrs_sErr noSh_rErr mErr_wr mErr_n rSlot_len sSlot_len shr_rSlot shr_sSlot shrs_rSlot shrs_sSlot noSh_rSlot mSlot_wr mSlot_n rNode_len sNode_len shr_rNode shr_sNode shrs_rNode shrs_sNode noSh_rNode mNode_wr mNode_n rTree_len sTree_len shr_rTree shr_sTree shrs_rTree shrs_sTree noSh_rTree mTree_wr mTree_n rRun_len sRun_len shr_rRun shr_sRun shrs_rRun shrs_sRun noSh_rRun mRun_wr mRun_n rJob_len sJob_len shr_rJob shr_sJob shrs_rJob shrs_sJob noSh_rJob mJob_wr mJob_n rOutcome_len sOutcome_len shr_rOutcome shr_sOutcome shrs_rOutcome shrs_sOutcome noSh_rOutcome mOutcome_wr mOutcome_n rTenant_len sTenant_len shr_rTenant shr_sTenant shrs_rTenant shrs_sTenant noSh_rTenant mTenant_wr mTenant_n uTenant_wr uTenant_n rLine_len sLine_len shr_rLine shr_sLine shrs_rLine shrs_sLine noSh_rLine mLine_wr mLine_n rStore_len sStore_len shr_rStore shr_sStore shrs_rStore shrs_sStore noSh_rStore mStore_wr mStore_n uStore_wr uStore_n noSh_sOutcome noSh_sSlot noSh_sErr noSh_tenant
-- 61 loop.example/g00485/laws.eqIntSSS
def k_laws_eqIntSSS : K :=
 .seq (
  .reg none [⟨(some 4), none, .asn (.c (.bool false))⟩]) (
 .seq (
  .seq (
   .reg none [⟨(some 6), none, .mv (.t 0)⟩,
     ⟨(some 7), none, .len (.t 6)⟩,
     ⟨(some 8), none, .mv (.t 1)⟩,
     ⟨(some 9), none, .len (.t 8)⟩,
     ⟨(some 10), none, .bin .neq (.t 7) (.t 9)⟩]) (
  .cond (.t 10) (
   .seq (
    .reg none [⟨(some 4), none, .asn (.c (.bool false))⟩]) (
   .ret)) (
   .skip))) (
 .seq (
  .seq (
   .reg none [⟨(some 5), none, .asn (.c (.int .i64 (0)))⟩]) (
  .block 0 (
   .loop (some ([0, 1, 5], [0, 1, 5, 1000])) (
    .seq (
     .seq (
      .reg none [⟨(some 11), none, .mv (.t 5)⟩,
        ⟨(some 12), none, .mv (.t 0)⟩,
        ⟨(some 13), none, .len (.t 12)⟩,
        ⟨(some 14), none, .bin .lss (.t 11) (.t 13)⟩]) (
     .cond (.t 14) (
      .skip) (
      .exit 0))) (
    .seq (
     .block 1 (
      .seq (
       .drw none 10 [⟨(some 17), none, .mv (.t 0)⟩,
         ⟨(some 18), none, .mv (.t 5)⟩,
         ⟨(some 19), none, .iad 1 (.t 17) (.t 18)⟩,
         ⟨(some 20), none, .ld 1 false (.t 19)⟩,
         ⟨(some 21), none, .mv (.t 1)⟩,
         ⟨(some 22), none, .mv (.t 5)⟩,
         ⟨(some 23), none, .iad 1 (.t 21) (.t 22)⟩,
         ⟨(some 24), none, .ld 1 false (.t 23)⟩,
         ⟨(some 25), none, .call 117 [(.t 20), (.t 24)]⟩,
         ⟨(some 26), none, .not (.t 25)⟩]) (
      .cond (.t 26) (
       .seq (
        .reg none [⟨(some 4), none, .asn (.c (.bool false))⟩]) (
       .ret)) (
       .skip)))) (
    .reg none [⟨(some 15), none, .mv (.t 5)⟩,
      ⟨(some 16), none, .bin .add (.t 15) (.c (.int .i64 (1)))⟩,
      ⟨(some 5), none, .asn (.t 16)⟩])))))) (
 .seq (
  .reg none [⟨(some 4), none, .asn (.c (.bool true))⟩]) (
 .ret))))
def r_laws_eqIntSSS : Nat × List RV := (27, [.t 4])

theorem c_laws_eqIntSSS : cmpS PT PF PA (Try.prog.funcs[61]?) = some (r_laws_eqIntSSS.1, r_laws_eqIntSSS.2, stripK k_laws_eqIntSSS) := by kernel_rfl

theorem h_eqIntSSS (xs : List (List (List Int))) (hx : wL (wL (wL w0)) xs < 2 ^ 40) : CallsF Try.prog 61 [.one (.ar false 0 1 (xs.map sISS)), .one (.ar false 0 1 (xs.map sISS))] (aB true) := by
  refine Prun c_laws_eqIntSSS (by simp [r_laws_eqIntSSS]) (by simp) ?_
  unfold k_laws_eqIntSSS r_laws_eqIntSSS
  have hlen := wL_len (wL (wL w0)) xs
  simp
  refine awp_loop (fun n σ => ∃ i : Nat, i ≤ xs.length ∧ n = xs.length - i ∧ σ = ⟨[(0, .one (.ar false 0 1 (xs.map sISS))), (1, .one (.ar false 0 1 (xs.map sISS))), (5, aI i)], []⟩) (xs.length) ⟨0, by simp⟩ ?_
  rintro n σ ⟨i, hi, rfl, rfl⟩
  by_cases h : i < xs.length
  · have hw := wL_get (wL (wL w0)) xs i h
    simp [h, sISS]
    refine ⟨_, by simp, h_eqIntSS xs[i] (by omega), ?_⟩
    simp
    refine ⟨xs.length - (i + 1), by omega, i + 1, by omega, rfl, ?_⟩
    rw [wrapI (by omega) (by omega)]
    simp
  · simp [h]
end Go.Am
-- Gram_eq1
namespace Go.Am
open Go.Proofs
set_option maxHeartbeats 4000000
set_option maxRecDepth 100000
attribute [-simp] BitVec.toNat_or BitVec.toNat_and BitVec.toNat_ofInt
attribute [-simp] rConf_len sConf_len shr_rConf shr_sConf shrs_rConf shrs_sConf noSh_rConf mConf_wr mConf_n cS_t cS_f row20_len row20_sc row20_view row20_store row20_aff row20_ref row20_noSh row20_shr row20_lend row20_take row20_drop rB_len setR_noSh rErr_len sErr_len shr_rErr shr_sErr shrs_rErr shrs_sErr noSh_rErr mErr_wr mErr_n rSlot_len sSlot_len shr_rSlot shr_sSlot shrs_rSlot shrs_sSlot noSh_rSlot mSlot_wr mSlot_n rNode_len sNode_len shr_rNode shr_sNode shrs_rNode shrs_sNode noSh_rNode mNode_wr mNode_n rTree_len sTree_len shr_rTree shr_sTree shrs_rTree shrs_sTree noSh_rTree mTree_wr mTree_n rRun_len sRun_len shr_rRun shr_sRun shrs_rRun shrs_sRun noSh_rRun mRun_wr mRun_n rJob_len sJob_len shr_rJob shr_sJob shrs_rJob shrs_sJob noSh_rJob mJob_wr mJob_n rOutcome_len sOutcome_len shr_rOutcome shr_sOutcome shrs_rOutcome shrs_sOutcome noSh_rOutcome mOutcome_wr mOutcome_n rTenant_len sTenant_len shr_rTenant shr_sTenant shrs_rTenant shrs_sTenant noSh_rTenant mTenant_wr mTenant_n uTenant_wr uTenant_n rLine_len sLine_len shr_rLine shr_sLine shrs_rLine shrs_sLine noSh_rLine mLine_wr mLine_n rStore_len sStore_len shr_rStore shr_sStore shrs_rStore shrs_sStore noSh_rStore mStore_wr mStore_n uStore_wr uStore_n noSh_sOutcome noSh_sSlot noSh_sErr noSh_tenant
-- 21 loop.example/g00485/laws.eqGram
def k_laws_eqGram : K :=
 .seq (
  .reg none [⟨(some 2), none, .box 39 1 (.t 0)⟩,
    ⟨(some 3), none, .box 39 1 (.t 1)⟩,
    ⟨(some 4), none, .asn (.c (.bool false))⟩]) (
 .seq (
  .seq (
   .reg none [⟨(some 5), none, .fad 0 (.t 2)⟩,
     ⟨(some 6), none, .ld 1 false (.t 5)⟩,
     ⟨(some 7), none, .fad 0 (.t 3)⟩,
     ⟨(some 8), none, .ld 1 false (.t 7)⟩,
     ⟨(some 9), none, .call 61 [(.t 6), (.t 8)]⟩,
     ⟨(some 10), none, .not (.t 9)⟩]) (
  .cond (.t 10) (
   .seq (
    .reg none [⟨(some 4), none, .asn (.c (.bool false))⟩]) (
   .ret)) (
   .skip))) (
 .seq (
  .reg none [⟨(some 4), none, .asn (.c (.bool true))⟩]) (
 .ret)))
def r_laws_eqGram : Nat × List RV := (11, [.t 4])

theorem c_laws_eqGram : cmpS PT PF PA (Try.prog.funcs[21]?) = some (r_laws_eqGram.1, r_laws_eqGram.2, stripK k_laws_eqGram) := by kernel_rfl

theorem h_eqGram (a : TGram) (ha : wGram a < 2 ^ 40) : CallsF Try.prog 21 [.agg (sGram a), .agg (sGram a)] (aB true) := by
  refine Prun c_laws_eqGram (by simp [r_laws_eqGram]) (by simp) ?_
  unfold k_laws_eqGram r_laws_eqGram
  simp only [wGram] at ha
  simp [sGram]
  refine callG_F (h_eqIntSSS a.parts (by omega)) (by simp) ?_
  simp
end Go.Am
-- Gram_u
namespace Go.Am
open Go.Proofs
set_option maxHeartbeats 4000000
set_option maxRecDepth 100000
attribute [-simp] BitVec.toNat_or BitVec.toNat_and BitVec.toNat_ofInt
attribute [-simp] rConf_len sConf_len shr_rConf shr_sConf shrs_rConf shrs_sConf noSh_rConf mConf_wr mConf_n cS_t cS_f row20_len row20_sc row20_view row20_store row20_aff row20_ref row20_noSh row20_shr row20_lend row20_take row20_drop rB_len setR_noSh rErr_len sErr_len shr_rErr shr_sErr shrs_rErr shrs_sErr noSh_rErr mErr_wr mErr_n rSlot_len sSlot_len shr_rSlot shr_sSlot shrs_rSlot shrs_sSlot noSh_rSlot mSlot_wr mSlot_n rNode_len sNode_len shr_rNode shr_sNode shrs_rNode shrs_sNode noSh_rNode mNode_wr mNode_n rTree_len sTree_len shr_rTree shr_sTree shrs_rTree shrs_sTree noSh_rTree mTree_wr mTree_n rRun_len sRun_len shr_rRun shr_sRun shrs_rRun shrs_sRun noSh_rRun mRun_wr mRun_n rJob_len sJob_len shr_rJob shr_sJob shrs_rJob shrs_sJob noSh_rJob mJob_wr mJob_n rOutcome_len sOutcome_len shr_rOutcome shr_sOutcome shrs_rOutcome shrs_sOutcome noSh_rOutcome mOutcome_wr mOutcome_n rTenant_len sTenant_len shr_rTenant shr_sTenant shrs_rTenant shrs_sTenant noSh_rTenant mTenant_wr mTenant_n uTenant_wr uTenant_n rLine_len sLine_len shr_rLine shr_sLine shrs_rLine shrs_sLine noSh_rLine mLine_wr mLine_n rStore_len sStore_len shr_rStore shr_sStore shrs_rStore shrs_sStore noSh_rStore mStore_wr mStore_n uStore_wr uStore_n noSh_sOutcome noSh_sSlot noSh_sErr noSh_tenant
def vGram (a : TGram) : List C := [.vw 90 1 1000 [] 0 a.parts.length]
def uGram : Mk TGram := ⟨fun a k => ⟨mI.L.L.mkL a.parts (k)⟩, fun a => mI.L.L.nL a.parts⟩
@[simp] theorem uGram_wr (a : TGram) (k : Int) : uGram.wr a k = ⟨mI.L.L.mkL a.parts (k)⟩ := rfl
@[simp] theorem uGram_n (a : TGram) : uGram.n a = mI.L.L.nL a.parts := rfl
end Go.Am
-- intk
namespace Go.Am
open Go.Proofs
set_option maxHeartbeats 4000000
set_option maxRecDepth 100000
attribute [-simp] BitVec.toNat_or BitVec.toNat_and BitVec.toNat_ofInt
attribute [-simp] rConf_len sConf_len shr_rConf shr_sConf shrs_rConf shrs_sConf noSh_rConf mConf_wr mConf_n rIS_len sIS_len shr_rIS shr_sIS shrs_rIS shrs_sIS noSh_rIS rISS_len sISS_len shr_rISS shr_sISS shrs_rISS shrs_sISS noSh_rISS rGram_len sGram_len shr_rGram shr_sGram shrs_rGram shrs_sGram noSh_rGram mGram_wr mGram_n cS_t cS_f row20_len row20_sc row20_view row20_store row20_aff row20_ref row20_noSh row20_shr row20_lend row20_take row20_drop rB_len setR_noSh rErr_len sErr_len shr_rErr shr_sErr shrs_rErr shrs_sErr noSh_rErr mErr_wr mErr_n rSlot_len sSlot_len shr_rSlot shr_sSlot shrs_rSlot shrs_sSlot noSh_rSlot mSlot_wr mSlot_n rNode_len sNode_len shr_rNode shr_sNode shrs_rNode shrs_sNode noSh_rNode mNode_wr mNode_n rTree_len sTree_len shr_rTree shr_sTree shrs_rTree shrs_sTree noSh_rTree mTree_wr mTree_n rRun_len sRun_len shr_rRun shr_sRun shrs_rRun shrs_sRun noSh_rRun mRun_wr mRun_n rJob_len sJob_len shr_rJob shr_sJob shrs_rJob shrs_sJob noSh_rJob mJob_wr mJob_n rOutcome_len sOutcome_len shr_rOutcome shr_sOutcome shrs_rOutcome shrs_sOutcome noSh_rOutcome mOutcome_wr mOutcome_n rTenant_len sTenant_len shr_rTenant shr_sTenant shrs_rTenant shrs_sTenant noSh_rTenant mTenant_wr mTenant_n uTenant_wr uTenant_n rLine_len sLine_len shr_rLine shr_sLine shrs_rLine shrs_sLine noSh_rLine mLine_wr mLine_n rStore_len sStore_len shr_rStore shr_sStore shrs_rStore shrs_sStore noSh_rStore mStore_wr mStore_n uStore_wr uStore_n noSh_sOutcome noSh_sSlot noSh_sErr noSh_tenant uGram_wr uGram_n
-- 24 loop.example/g00485/laws.markIntS
def k_laws_markIntS : K :=
 .seq (
  .reg none [⟨(some 4), none, .asn (.c (.int .i64 (0)))⟩]) (
 .seq (
  .seq (
   .reg none [⟨(some 5), none, .asn (.c (.int .i64 (0)))⟩]) (
  .block 0 (
   .loop (some ([0, 1, 5], [0, 1, 5, 1000])) (
    .seq (
     .seq (
      .reg none [⟨(some 6), none, .mv (.t 5)⟩,
        ⟨(some 7), none, .mv (.t 0)⟩,
        ⟨(some 8), none, .len (.t 7)⟩,
        ⟨(some 9), none, .bin .lss (.t 6) (.t 8)⟩]) (
     .cond (.t 9) (
      .skip) (
      .exit 0))) (
    .seq (
     .block 1 (
      .seq (
       .reg none [⟨(some 12), none, .mv (.t 0)⟩,
         ⟨(some 13), none, .mv (.t 5)⟩,
         ⟨(some 14), none, .mv (.t 1)⟩,
         ⟨(some 15), none, .iad 1 (.t 12) (.t 13)⟩,
         ⟨none, none, .st 1 false (.t 15) (.t 14)⟩]) (
      .reg none [⟨(some 16), none, .mv (.t 1)⟩,
        ⟨(some 17), none, .bin .add (.t 16) (.c (.int .i64 (1)))⟩,
        ⟨(some 1), none, .asn (.t 17)⟩]))) (
    .reg none [⟨(some 10), none, .mv (.t 5)⟩,
      ⟨(some 11), none, .bin .add (.t 10) (.c (.int .i64 (1)))⟩,
      ⟨(some 5), none, .asn (.t 11)⟩])))))) (
 .seq (
  .reg none [⟨(some 18), none, .mv (.t 1)⟩,
    ⟨(some 4), none, .asn (.t 18)⟩]) (
 .ret)))
def r_laws_markIntS : Nat × List RV := (19, [.t 4])

theorem c_laws_markIntS : cmpS PT PF PB (Try.prog.funcs[24]?) = some (r_laws_markIntS.1, r_laws_markIntS.2, stripK k_laws_markIntS) := by kernel_rfl

theorem h_markIntS (t : Nat) (xs : List Int) (k : Int) (hk : 0 ≤ k) (hk2 : k + mI.nL xs < 2 ^ 50) :
    CallsB Try.prog 24 [.one (.vw t 1 1000 [] 0 xs.length), aI k] ⟨t, 1, xs.map rI⟩ ⟨t, 1, (mI.mkL xs k).map rI⟩ (aI (k + mI.nL xs)) := by
  refine PrunB c_laws_markIntS (by simp [r_laws_markIntS]) (by simp) ?_
  unfold k_laws_markIntS r_laws_markIntS
  have hn : (mI.nL xs : Int) = xs.length := by simp [mI_n]
  simp
  refine awp_loop (fun n σ => ∃ i : Nat, i ≤ xs.length ∧ n = xs.length - i ∧ σ = ⟨[(0, .one (.vw t 1 1000 [] 0 xs.length)), (1, aI (mI.pos xs k i)), (5, aI i)], [(1000, ⟨t, 1, (mI.upto xs k i).map rI⟩)]⟩) (xs.length) ⟨0, by simp [Mk.upto_zero, Mk.pos_zero]⟩ ?_
  rintro n σ ⟨i, hi, rfl, rfl⟩
  have hp1 : mI.pos xs k i ≤ k + mI.nL xs := Mk.pos_le hi
  have hp2 : k ≤ mI.pos xs k i := Mk.pos_ge
  by_cases h : i < xs.length
  · have hpst : mI.pos xs k (i + 1) = mI.pos xs k i + 1 := Mk.pos_step h
    have hst := Mk.upto_set (M := mI) (k := k) h
    have hle : mI.pos xs k (i + 1) ≤ k + mI.nL xs := Mk.pos_le h
    have w1 : IntKind.i64.wrap (mI.pos xs k i + 1) = mI.pos xs k (i + 1) := by rw [wrapI (by omega) (by omega), hpst]
    have w2 : IntKind.i64.wrap ((i : Int) + 1) = i + 1 := wrapI (by omega) (by omega)
    simp [h, w1, w2]
    refine ⟨xs.length - (i + 1), by omega, i + 1, by omega, rfl, ?_⟩
    rw [← hst]
    simp
  · have : i = xs.length := by omega
    subst this
    simp [Mk.upto_all, Mk.pos_all]
end Go.Am
-- IntSS_mk
namespace Go.Am
open Go.Proofs
set_option maxHeartbeats 4000000
set_option maxRecDepth 100000
attribute [-simp] BitVec.toNat_or BitVec.toNat_and BitVec.toNat_ofInt
attribute [-simp] rConf_len sConf_len shr_rConf shr_sConf shrs_rConf shrs_sConf noSh_rConf mConf_wr mConf_n rISS_len sISS_len shr_rISS shr_sISS shrs_rISS shrs_sISS noSh_rISS rGram_len sGram_len shr_rGram shr_sGram shrs_rGram shrs_sGram noSh_rGram mGram_wr mGram_n cS_t cS_f row20_len row20_sc row20_view row20_store row20_aff row20_ref row20_noSh row20_shr row20_lend row20_take row20_drop rB_len setR_noSh rErr_len sErr_len shr_rErr shr_sErr shrs_rErr shrs_sErr noSh_rErr mErr_wr mErr_n rSlot_len sSlot_len shr_rSlot shr_sSlot shrs_rSlot shrs_sSlot noSh_rSlot mSlot_wr mSlot_n rNode_len sNode_len shr_rNode shr_sNode shrs_rNode shrs_sNode noSh_rNode mNode_wr mNode_n rTree_len sTree_len shr_rTree shr_sTree shrs_rTree shrs_sTree noSh_rTree mTree_wr mTree_n rRun_len sRun_len shr_rRun shr_sRun shrs_rRun shrs_sRun noSh_rRun mRun_wr mRun_n rJob_len sJob_len shr_rJob shr_sJob shrs_rJob shrs_sJob noSh_rJob mJob_wr mJob_n rOutcome_len sOutcome_len shr_rOutcome shr_sOutcome shrs_rOutcome shrs_sOutcome noSh_rOutcome mOutcome_wr mOutcome_n rTenant_len sTenant_len shr_rTenant shr_sTenant shrs_rTenant shrs_sTenant noSh_rTenant mTenant_wr mTenant_n uTenant_wr uTenant_n rLine_len sLine_len shr_rLine shr_sLine shrs_rLine shrs_sLine noSh_rLine mLine_wr mLine_n rStore_len sStore_len shr_rStore shr_sStore shrs_rStore shrs_sStore noSh_rStore mStore_wr mStore_n uStore_wr uStore_n noSh_sOutcome noSh_sSlot noSh_sErr noSh_tenant uGram_wr uGram_n
@[simp] theorem mIS_n1 (a : List Int) : mI.L.n a = mI.nL a := rfl
@[simp] theorem mIS_wr1 (a : List Int) (k : Int) : mI.L.wr a k = mI.mkL a k := rfl
-- 118 loop.example/g00485/laws.markIntSS
def k_laws_markIntSS : K :=
 .seq (
  .reg none [⟨(some 4), none, .asn (.c (.int .i64 (0)))⟩]) (
 .seq (
  .seq (
   .reg none [⟨(some 5), none, .asn (.c (.int .i64 (0)))⟩]) (
  .block 0 (
   .loop (some ([0, 1, 5], [0, 1, 5, 1000])) (
    .seq (
     .seq (
      .reg none [⟨(some 6), none, .mv (.t 5)⟩,
        ⟨(some 7), none, .mv (.t 0)⟩,
        ⟨(some 8), none, .len (.t 7)⟩,
        ⟨(some 9), none, .bin .lss (.t 6) (.t 8)⟩]) (
     .cond (.t 9) (
      .skip) (
      .exit 0))) (
    .seq (
     .block 1 (
      .reg none [⟨(some 12), none, .mv (.t 0)⟩,
        ⟨(some 13), none, .mv (.t 5)⟩,
        ⟨(some 14), none, .iad 1 (.t 12) (.t 13)⟩,
        ⟨(some 15), none, .ld 1 false (.t 14)⟩,
        ⟨(some 16), none, .mv (.t 1)⟩,
        ⟨(some 17), none, .callr 24 (.t 15) [(.t 15), (.t 16)]⟩,
        ⟨(some 1), none, .asn (.t 17)⟩])) (
    .reg none [⟨(some 10), none, .mv (.t 5)⟩,
      ⟨(some 11), none, .bin .add (.t 10) (.c (.int .i64 (1)))⟩,
      ⟨(some 5), none, .asn (.t 11)⟩])))))) (
 .seq (
  .reg none [⟨(some 18), none, .mv (.t 1)⟩,
    ⟨(some 4), none, .asn (.t 18)⟩]) (
 .ret)))
def r_laws_markIntSS : Nat × List RV := (19, [.t 4])

theorem c_laws_markIntSS : cmpS PT PF PB (Try.prog.funcs[118]?) = some (r_laws_markIntSS.1, r_laws_markIntSS.2, stripK k_laws_markIntSS) := by kernel_rfl

theorem h_markIntSS (t : Nat) (xs : List (List Int)) (k : Int) (hk : 0 ≤ k) (hk2 : k + mI.L.nL xs < 2 ^ 50) (hk3 : wL (wL w0) xs < 2 ^ 50) :
    CallsB Try.prog 118 [.one (.vw t 1 1000 [] 0 xs.length), aI k] ⟨t, 1, xs.map rIS⟩ ⟨t, 1, (mI.L.mkL xs k).map rIS⟩ (aI (k + mI.L.nL xs)) := by
  refine PrunB c_laws_markIntSS (by simp [r_laws_markIntSS]) (by simp) ?_
  unfold k_laws_markIntSS r_laws_markIntSS
  have hlen := wL_len (wL w0) xs
  simp
  refine awp_loop (fun n σ => ∃ i : Nat, i ≤ xs.length ∧ n = xs.length - i ∧ σ = ⟨[(0, .one (.vw t 1 1000 [] 0 xs.length)), (1, aI (mI.L.pos xs k i)), (5, aI i)], [(1000, ⟨t, 1, (mI.L.upto xs k i).map rIS⟩)]⟩) (xs.length) ⟨0, by simp [Mk.upto_zero, Mk.pos_zero]⟩ ?_
  rintro n σ ⟨i, hi, rfl, rfl⟩
  have hp1 : mI.L.pos xs k i ≤ k + mI.L.nL xs := Mk.pos_le hi
  have hp2 : k ≤ mI.L.pos xs k i := Mk.pos_ge
  by_cases h : i < xs.length
  · have hw := wL_get (wL w0) xs i h
    have hpst : mI.L.pos xs k (i + 1) = mI.L.pos xs k i + mI.L.n xs[i] := Mk.pos_step h
    have hle : mI.L.pos xs k (i + 1) ≤ k + mI.L.nL xs := Mk.pos_le h
    have hst := Mk.upto_set (M := mI.L) (k := k) h
    have hga := Mk.upto_at (M := mI.L) (k := k) h
    have hll := Mk.upto_len (M := mI.L) (xs := xs) (k := k) (i := i)
    generalize mI.L.upto xs k i = us at *
    generalize hκ : mI.L.pos xs k i = p0 at *
    generalize ha : xs[i] = row at *
    simp only [mIS_n1, mIS_wr1] at hpst hga hst
    have hc1 := h_markIntS 3 row p0 (by omega) (by omega)
    have hi3 : i < us.length := by omega
    have hga := hga hi3
    simp [h, hga, hll, rIS]
    refine callRG_F hc1 rfl rfl (by simp) (by simp) ?_
    simp [h, hga, hll, rIS]
    refine ⟨xs.length - (i + 1), by omega, i + 1, by omega, rfl, ?_⟩
    rw [wrapI (by omega) (by omega)]
    rw [← hst]
    simp [rIS]
    omega
  · have : i = xs.length := by omega
    subst this
    simp [Mk.upto_all, Mk.pos_all]
end Go.Am
-- IntSSS_mk
namespace Go.Am
open Go.Proofs
set_option maxHeartbeats 4000000
set_option maxRecDepth 100000
attribute [-simp] BitVec.toNat_or BitVec.toNat_and BitVec.toNat_ofInt
attribute [-simp] rConf_len sConf_len shr_rConf shr_sConf shrs_rConf shrs_sConf noSh_rConf mConf_wr mConf_n rGram_len sGram_len shr_rGram shr_sGram shrs_rGram shrs_sGram noSh_rGram mGram_wr mGram_n cS_t cS_f row20_len row20_sc row20_view row20_store row20_aff row20_ref row20_noSh row20_shr row20_lend row20_take row20_drop rB_len setR_noSh rErr_len sErr_len shr_rErr shr_sErr shrs_rErr shrs_sErr noSh_rErr mErr_wr mErr_n rSlot_len sSlot_len shr_rSlot shr_sSlot shrs_rSlot shrs_sSlot noSh_rSlot mSlot_wr mSlot_n rNode_len sNode_len shr_rNode shr_sNode shrs_rNode shrs_sNode noSh_rNode mNode_wr mNode_n rTree_len sTree_len shr_rTree shr_sTree shrs_rTree shrs_sTree noSh_rTree mTree_wr mTree_n rRun_len sRun_len shr_rRun shr_sRun shrs_rRun shrs_sRun noSh_rRun mRun_wr mRun_n rJob_len sJob_len shr_rJob shr_sJob shrs_rJob shrs_sJob noSh_rJob mJob_wr mJob_n rOutcome_len sOutcome_len shr_rOutcome shr_sOutcome shrs_rOutcome shrs_sOutcome noSh_rOutcome mOutcome_wr mOutcome_n rTenant_len sTenant_len shr_rTenant shr_sTenant shrs_rTenant shrs_sTenant noSh_rTenant mTenant_wr mTenant_n uTenant_wr uTenant_n rLine_len sLine_len shr_rLine shr_sLine shrs_rLine shrs_sLine noSh_rLine mLine_wr mLine_n rStore_len sStore_len shr_rStore shr_sStore shrs_rStore shrs_sStore noSh_rStore mStore_wr mStore_n uStore_wr uStore_n noSh_sOutcome noSh_sSlot noSh_sErr noSh_tenant uGram_wr uGram_n
@[simp] theorem mISS_n1 (a : List (List Int)) : mI.L.L.n a = mI.L.nL a := rfl
@[simp] theorem mISS_wr1 (a : List (List Int)) (k : Int) : mI.L.L.wr a k = mI.L.mkL a k := rfl
-- 62 loop.example/g00485/laws.markIntSSS
def k_laws_markIntSSS : K :=
 .seq (
  .reg none [⟨(some 4), none, .asn (.c (.int .i64 (0)))⟩]) (
 .seq (
  .seq (
   .reg none [⟨(some 5), none, .asn (.c (.int .i64 (0)))⟩]) (
  .block 0 (
   .loop (some ([0, 1, 5], [0, 1, 5, 1000])) (
    .seq (
     .seq (
      .reg none [⟨(some 6), none, .mv (.t 5)⟩,
        ⟨(some 7), none, .mv (.t 0)⟩,
        ⟨(some 8), none, .len (.t 7)⟩,
        ⟨(some 9), none, .bin .lss (.t 6) (.t 8)⟩]) (
     .cond (.t 9) (
      .skip) (
      .exit 0))) (
    .seq (
     .block 1 (
      .reg none [⟨(some 12), none, .mv (.t 0)⟩,
        ⟨(some 13), none, .mv (.t 5)⟩,
        ⟨(some 14), none, .iad 1 (.t 12) (.t 13)⟩,
        ⟨(some 15), none, .ld 1 false (.t 14)⟩,
        ⟨(some 16), none, .mv (.t 1)⟩,
        ⟨(some 17), none, .callr 118 (.t 15) [(.t 15), (.t 16)]⟩,
        ⟨(some 1), none, .asn (.t 17)⟩])) (
    .reg none [⟨(some 10), none, .mv (.t 5)⟩,
      ⟨(some 11), none, .bin .add (.t 10) (.c (.int .i64 (1)))⟩,
      ⟨(some 5), none, .asn (.t 11)⟩])))))) (
 .seq (
  .reg none [⟨(some 18), none, .mv (.t 1)⟩,
    ⟨(some 4), none, .asn (.t 18)⟩]) (
 .ret)))
def r_laws_markIntSSS : Nat × List RV := (19, [.t 4])

theorem c_laws_markIntSSS : cmpS PT PF PB (Try.prog.funcs[62]?) = some (r_laws_markIntSSS.1, r_laws_markIntSSS.2, stripK k_laws_markIntSSS) := by kernel_rfl

theorem h_markIntSSS (t : Nat) (xs : List (List (List Int))) (k : Int) (hk : 0 ≤ k) (hk2 : k + mI.L.L.nL xs < 2 ^ 50) (hk3 : wL (wL (wL w0)) xs < 2 ^ 50) :
    CallsB Try.prog 62 [.one (.vw t 1 1000 [] 0 xs.length), aI k] ⟨t, 1, xs.map rISS⟩ ⟨t, 1, (mI.L.L.mkL xs k).map rISS⟩ (aI (k + mI.L.L.nL xs)) := by
  refine PrunB c_laws_markIntSSS (by simp [r_laws_markIntSSS]) (by simp) ?_
  unfold k_laws_markIntSSS r_laws_markIntSSS
  have hlen := wL_len (wL (wL w0)) xs
  simp
  refine awp_loop (fun n σ => ∃ i : Nat, i ≤ xs.length ∧ n = xs.length - i ∧ σ = ⟨[(0, .one (.vw t 1 1000 [] 0 xs.length)), (1, aI (mI.L.L.pos xs k i)), (5, aI i)], [(1000, ⟨t, 1, (mI.L.L.upto xs k i).map rISS⟩)]⟩) (xs.length) ⟨0, by simp [Mk.upto_zero, Mk.pos_zero]⟩ ?_
  rintro n σ ⟨i, hi, rfl, rfl⟩
  have hp1 : mI.L.L.pos xs k i ≤ k + mI.L.L.nL xs := Mk.pos_le hi
  have hp2 : k ≤ mI.L.L.pos xs k i := Mk.pos_ge
  by_cases h : i < xs.length
  · have hw := wL_get (wL (wL w0)) xs i h
    have hpst : mI.L.L.pos xs k (i + 1) = mI.L.L.pos xs k i + mI.L.L.n xs[i] := Mk.pos_step h
    have hle : mI.L.L.pos xs k (i + 1) ≤ k + mI.L.L.nL xs := Mk.pos_le h
    have hst := Mk.upto_set (M := mI.L.L) (k := k) h
    have hga := Mk.upto_at (M := mI.L.L) (k := k) h
    have hll := Mk.upto_len (M := mI.L.L) (xs := xs) (k := k) (i := i)
    generalize mI.L.L.upto xs k i = us at *
    generalize hκ : mI.L.L.pos xs k i = p0 at *
    generalize ha : xs[i] = row at *
    simp only [mISS_n1, mISS_wr1] at hpst hga hst
    have hc1 := h_markIntSS 34 row p0 (by omega) (by omega) (by omega)
    have hi3 : i < us.length := by omega
    have hga := hga hi3
    simp [h, hga, hll, rISS]
    refine callRG_F hc1 rfl rfl (by simp) (by simp) ?_
    simp [h, hga, hll, rISS]
    refine ⟨xs.length - (i + 1), by omega, i + 1, by omega, rfl, ?_⟩
    rw [wrapI (by omega) (by omega)]
    rw [← hst]
    simp [rISS]
    omega
  · have : i = xs.length := by omega
    subst this
    simp [Mk.upto_all, Mk.pos_all]
end Go.Am
-- Gram_mk1
namespace Go.Am
open Go.Proofs
set_option maxHeartbeats 4000000
set_option maxRecDepth 100000
attribute [-simp] BitVec.toNat_or BitVec.toNat_and BitVec.toNat_ofInt
attribute [-simp] rConf_len sConf_len shr_rConf shr_sConf shrs_rConf shrs_sConf noSh_rConf mConf_wr mConf_n cS_t cS_f row20_len row20_sc row20_view row20_store row20_aff row20_ref row20_noSh row20_shr row20_lend row20_take row20_drop rB_len setR_noSh rErr_len sErr_len shr_rErr shr_sErr shrs_rErr shrs_sErr noSh_rErr mErr_wr mErr_n rSlot_len sSlot_len shr_rSlot shr_sSlot shrs_rSlot shrs_sSlot noSh_rSlot mSlot_wr mSlot_n rNode_len sNode_len shr_rNode shr_sNode shrs_rNode shrs_sNode noSh_rNode mNode_wr mNode_n rTree_len sTree_len shr_rTree shr_sTree shrs_rTree shrs_sTree noSh_rTree mTree_wr mTree_n rRun_len sRun_len shr_rRun shr_sRun shrs_rRun shrs_sRun noSh_rRun mRun_wr mRun_n rJob_len sJob_len shr_rJob shr_sJob shrs_rJob shrs_sJob noSh_rJob mJob_wr mJob_n rOutcome_len sOutcome_len shr_rOutcome shr_sOutcome shrs_rOutcome shrs_sOutcome noSh_rOutcome mOutcome_wr mOutcome_n rTenant_len sTenant_len shr_rTenant shr_sTenant shrs_rTenant shrs_sTenant noSh_rTenant mTenant_wr mTenant_n uTenant_wr uTenant_n rLine_len sLine_len shr_rLine shr_sLine shrs_rLine shrs_sLine noSh_rLine mLine_wr mLine_n rStore_len sStore_len shr_rStore shr_sStore shrs_rStore shrs_sStore noSh_rStore mStore_wr mStore_n uStore_wr uStore_n noSh_sOutcome noSh_sSlot noSh_sErr noSh_tenant
-- 23 loop.example/g00485/laws.markGram
def k_laws_markGram : K :=
 .seq (
  .reg none [⟨(some 2), none, .boxs 1 (.t 0)⟩,
    ⟨(some 4), none, .asn (.c (.int .i64 (0)))⟩]) (
 .seq (
  .reg none [⟨(some 5), none, .fad 0 (.t 2)⟩,
    ⟨(some 6), none, .ld 1 false (.t 5)⟩,
    ⟨(some 7), none, .mv (.t 1)⟩,
    ⟨(some 8), none, .callr 62 (.t 6) [(.t 6), (.t 7)]⟩,
    ⟨(some 1), none, .asn (.t 8)⟩]) (
 .seq (
  .reg none [⟨(some 9), none, .mv (.t 1)⟩,
    ⟨(some 4), none, .asn (.t 9)⟩]) (
 .ret)))
def r_laws_markGram : Nat × List RV := (10, [.t 4])

theorem c_laws_markGram : cmpS PT PF PB (Try.prog.funcs[23]?) = some (r_laws_markGram.1, r_laws_markGram.2, stripK k_laws_markGram) := by kernel_rfl

theorem h_markGram (a : TGram) (k : Int) (hk : 0 ≤ k) (hk2 : k + uGram.n a < 2 ^ 50) (hk3 : wGram a < 2 ^ 50) :
    CallsB Try.prog 23 [.agg (vGram a), aI k] ⟨90, 1, a.parts.map rISS⟩ ⟨90, 1, (uGram.wr a k).parts.map rISS⟩ (aI (k + uGram.n a)) := by
  refine PrunB c_laws_markGram (by simp [r_laws_markGram]) (by simp) ?_
  unfold k_laws_markGram r_laws_markGram
  simp only [uGram_n, wGram] at hk2 hk3
  obtain ⟨p0, hq0⟩ : ∃ p : Int, p = k + (mI.L.L.nL a.parts : Int) := ⟨_, rfl⟩
  have nn0 : ¬ p0 < 0 := by omega
  simp only [uGram_wr, ← hq0]
  simp [vGram, nn0]
  have hc0 := h_markIntSSS 90 a.parts k (by omega) (by omega) (by omega)
  simp only [← hq0] at hc0
  refine callRG_F hc0 rfl rfl (by simp) (by simp) ?_
  simp [nn0]
  try omega
end Go.Am
-- Conf_eq1
namespace Go.Am
open Go.Proofs
set_option maxHeartbeats 4000000
set_option maxRecDepth 100000
attribute [-simp] BitVec.toNat_or BitVec.toNat_and BitVec.toNat_ofInt
attribute [-simp] rIS_len sIS_len shr_rIS shr_sIS shrs_rIS shrs_sIS noSh_rIS rISS_len sISS_len shr_rISS shr_sISS shrs_rISS shrs_sISS noSh_rISS rGram_len sGram_len shr_rGram shr_sGram shrs_rGram shrs_sGram noSh_rGram mGram_wr mGram_n cS_t cS_f row20_len row20_sc row20_view row20_store row20_aff row20_ref row20_noSh row20_shr row20_lend row20_take row20_drop rB_len setR_noSh rErr_len sErr_len shr_rErr shr_sErr shrs_rErr shrs_sErr noSh_rErr mErr_wr mErr_n rSlot_len sSlot_len shr_rSlot shr_sSlot shrs_rSlot shrs_sSlot noSh_rSlot mSlot_wr mSlot_n rNode_len sNode_len shr_rNode shr_sNode shrs_rNode shrs_sNode noSh_rNode mNode_wr mNode_n rTree_len sTree_len shr_rTree shr_sTree shrs_rTree shrs_sTree noSh_rTree mTree_wr mTree_n rRun_len sRun_len shr_rRun shr_sRun shrs_rRun shrs_sRun noSh_rRun mRun_wr mRun_n rJob_len sJob_len shr_rJob shr_sJob shrs_rJob shrs_sJob noSh_rJob mJob_wr mJob_n rOutcome_len sOutcome_len shr_rOutcome shr_sOutcome shrs_rOutcome shrs_sOutcome noSh_rOutcome mOutcome_wr mOutcome_n rTenant_len sTenant_len shr_rTenant shr_sTenant shrs_rTenant shrs_sTenant noSh_rTenant mTenant_wr mTenant_n uTenant_wr uTenant_n rLine_len sLine_len shr_rLine shr_sLine shrs_rLine shrs_sLine noSh_rLine mLine_wr mLine_n rStore_len sStore_len shr_rStore shr_sStore shrs_rStore shrs_sStore noSh_rStore mStore_wr mStore_n uStore_wr uStore_n noSh_sOutcome noSh_sSlot noSh_sErr noSh_tenant uGram_wr uGram_n mIS_n1 mIS_wr1 mISS_n1 mISS_wr1
-- 60 loop.example/g00485/laws.eqConf
def k_laws_eqConf : K :=
 .seq (
  .reg none [⟨(some 2), none, .box 96 2 (.t 0)⟩,
    ⟨(some 3), none, .box 96 2 (.t 1)⟩,
    ⟨(some 4), none, .asn (.c (.bool false))⟩]) (
 .seq (
  .seq (
   .reg none [⟨(some 5), none, .fad 0 (.t 2)⟩,
     ⟨(some 6), none, .ld 1 false (.t 5)⟩,
     ⟨(some 7), none, .fad 0 (.t 3)⟩,
     ⟨(some 8), none, .ld 1 false (.t 7)⟩,
     ⟨(some 9), none, .bin .neq (.t 6) (.t 8)⟩]) (
  .cond (.t 9) (
   .seq (
    .reg none [⟨(some 4), none, .asn (.c (.bool false))⟩]) (
   .ret)) (
   .skip))) (
 .seq (
  .seq (
   .reg none [⟨(some 10), none, .fad 1 (.t 2)⟩,
     ⟨(some 11), none, .ld 1 false (.t 10)⟩,
     ⟨(some 12), none, .fad 1 (.t 3)⟩,
     ⟨(some 13), none, .ld 1 false (.t 12)⟩,
     ⟨(some 14), none, .call 22 [(.t 11), (.t 13)]⟩,
     ⟨(some 15), none, .not (.t 14)⟩]) (
  .cond (.t 15) (
   .seq (
    .reg none [⟨(some 4), none, .asn (.c (.bool false))⟩]) (
   .ret)) (
   .skip))) (
 .seq (
  .reg none [⟨(some 4), none, .asn (.c (.bool true))⟩]) (
 .ret))))
def r_laws_eqConf : Nat × List RV := (16, [.t 4])

theorem c_laws_eqConf : cmpS PT PF PA (Try.prog.funcs[60]?) = some (r_laws_eqConf.1, r_laws_eqConf.2, stripK k_laws_eqConf) := by kernel_rfl

theorem h_eqConf (a : TConf) (ha : wConf a < 2 ^ 40) : CallsF Try.prog 60 [.agg (sConf a), .agg (sConf a)] (aB true) := by
  refine Prun c_laws_eqConf (by simp [r_laws_eqConf]) (by simp) ?_
  unfold k_laws_eqConf r_laws_eqConf
  simp only [wConf] at ha
  simp [sConf]
  refine callG_F (h_eqIntS a.row (by omega)) (by simp) ?_
  simp
end Go.Am
-- Conf_eq
namespace Go.Am
open Go.Proofs
set_option maxHeartbeats 4000000
set_option maxRecDepth 100000
attribute [-simp] BitVec.toNat_or BitVec.toNat_and BitVec.toNat_ofInt
attribute [-simp] rIS_len sIS_len shr_rIS shr_sIS shrs_rIS shrs_sIS noSh_rIS rISS_len sISS_len shr_rISS shr_sISS shrs_rISS shrs_sISS noSh_rISS rGram_len sGram_len shr_rGram shr_sGram shrs_rGram shrs_sGram noSh_rGram mGram_wr mGram_n cS_t cS_f row20_len row20_sc row20_view row20_store row20_aff row20_ref row20_noSh row20_shr row20_lend row20_take row20_drop rB_len setR_noSh rErr_len sErr_len shr_rErr shr_sErr shrs_rErr shrs_sErr noSh_rErr mErr_wr mErr_n rSlot_len sSlot_len shr_rSlot shr_sSlot shrs_rSlot shrs_sSlot noSh_rSlot mSlot_wr mSlot_n rNode_len sNode_len shr_rNode shr_sNode shrs_rNode shrs_sNode noSh_rNode mNode_wr mNode_n rTree_len sTree_len shr_rTree shr_sTree shrs_rTree shrs_sTree noSh_rTree mTree_wr mTree_n rRun_len sRun_len shr_rRun shr_sRun shrs_rRun shrs_sRun noSh_rRun mRun_wr mRun_n rJob_len sJob_len shr_rJob shr_sJob shrs_rJob shrs_sJob noSh_rJob mJob_wr mJob_n rOutcome_len sOutcome_len shr_rOutcome shr_sOutcome shrs_rOutcome shrs_sOutcome noSh_rOutcome mOutcome_wr mOutcome_n rTenant_len sTenant_len shr_rTenant shr_sTenant shrs_rTenant shrs_sTenant noSh_rTenant mTenant_wr mTenant_n uTenant_wr uTenant_n rLine_len sLine_len shr_rLine shr_sLine shrs_rLine shrs_sLine noSh_rLine mLine_wr mLine_n rStore_len sStore_len shr_rStore shr_sStore shrs_rStore shrs_sStore noSh_rStore mStore_wr mStore_n uStore_wr uStore_n noSh_sOutcome noSh_sSlot noSh_sErr noSh_tenant uGram_wr uGram_n mIS_n1 mIS_wr1 mISS_n1 mISS_wr1
-- 20 loop.example/g00485/laws.eqConfS
def k_laws_eqConfS : K :=
 .seq (
  .reg none [⟨(some 4), none, .asn (.c (.bool false))⟩]) (
 .seq (
  .seq (
   .reg none [⟨(some 6), none, .mv (.t 0)⟩,
     ⟨(some 7), none, .len (.t 6)⟩,
     ⟨(some 8), none, .mv (.t 1)⟩,
     ⟨(some 9), none, .len (.t 8)⟩,
     ⟨(some 10), none, .bin .neq (.t 7) (.t 9)⟩]) (
  .cond (.t 10) (
   .seq (
    .reg none [⟨(some 4), none, .asn (.c (.bool false))⟩]) (
   .ret)) (
   .skip))) (
 .seq (
  .seq (
   .reg none [⟨(some 5), none, .asn (.c (.int .i64 (0)))⟩]) (
  .block 0 (
   .loop (some ([0, 1, 5], [0, 1, 5, 1000])) (
    .seq (
     .seq (
      .reg none [⟨(some 11), none, .mv (.t 5)⟩,
        ⟨(some 12), none, .mv (.t 0)⟩,
        ⟨(some 13), none, .len (.t 12)⟩,
        ⟨(some 14), none, .bin .lss (.t 11) (.t 13)⟩]) (
     .cond (.t 14) (
      .skip) (
      .exit 0))) (
    .seq (
     .block 1 (
      .seq (
       .drw none 10 [⟨(some 17), none, .mv (.t 0)⟩,
         ⟨(some 18), none, .mv (.t 5)⟩,
         ⟨(some 19), none, .iad 2 (.t 17) (.t 18)⟩,
         ⟨(some 20), none, .ld 2 true (.t 19)⟩,
         ⟨(some 21), none, .mv (.t 1)⟩,
         ⟨(some 22), none, .mv (.t 5)⟩,
         ⟨(some 23), none, .iad 2 (.t 21) (.t 22)⟩,
         ⟨(some 24), none, .ld 2 true (.t 23)⟩,
         ⟨(some 25), none, .call 60 [(.t 20), (.t 24)]⟩,
         ⟨(some 26), none, .not (.t 25)⟩]) (
      .cond (.t 26) (
       .seq (
        .reg none [⟨(some 4), none, .asn (.c (.bool false))⟩]) (
       .ret)) (
       .skip)))) (
    .reg none [⟨(some 15), none, .mv (.t 5)⟩,
      ⟨(some 16), none, .bin .add (.t 15) (.c (.int .i64 (1)))⟩,
      ⟨(some 5), none, .asn (.t 16)⟩])))))) (
 .seq (
  .reg none [⟨(some 4), none, .asn (.c (.bool true))⟩]) (
 .ret))))
def r_laws_eqConfS : Nat × List RV := (27, [.t 4])

theorem c_laws_eqConfS : cmpS PT PF PA (Try.prog.funcs[20]?) = some (r_laws_eqConfS.1, r_laws_eqConfS.2, stripK k_laws_eqConfS) := by kernel_rfl

theorem h_eqConfS (xs : List TConf) (hx : wL wConf xs < 2 ^ 40) : CallsF Try.prog 20 [.one (.ar false 0 2 (xs.map sConf)), .one (.ar false 0 2 (xs.map sConf))] (aB true) := by
  refine Prun c_laws_eqConfS (by simp [r_laws_eqConfS]) (by simp) ?_
  unfold k_laws_eqConfS r_laws_eqConfS
  have hlen := wL_len wConf xs
  simp
  refine awp_loop (fun n σ => ∃ i : Nat, i ≤ xs.length ∧ n = xs.length - i ∧ σ = ⟨[(0, .one (.ar false 0 2 (xs.map sConf))), (1, .one (.ar false 0 2 (xs.map sConf))), (5, aI i)], []⟩) (xs.length) ⟨0, by simp⟩ ?_
  rintro n σ ⟨i, hi, rfl, rfl⟩
  by_cases h : i < xs.length
  · have hw := wL_get wConf xs i h
    simp [h, sConf]
    refine ⟨_, by simp, h_eqConf xs[i] (by omega), ?_⟩
    simp
    refine ⟨xs.length - (i + 1), by omega, i + 1, by omega, rfl, ?_⟩
    rw [wrapI (by omega) (by omega)]
    simp
  · simp [h]
end Go.Am
-- Conf_mk
namespace Go.Am
open Go.Proofs
set_option maxHeartbeats 4000000
set_option maxRecDepth 100000
attribute [-simp] BitVec.toNat_or BitVec.toNat_and BitVec.toNat_ofInt
attribute [-simp] rIS_len sIS_len shr_rIS shr_sIS shrs_rIS shrs_sIS noSh_rIS rISS_len sISS_len shr_rISS shr_sISS shrs_rISS shrs_sISS noSh_rISS rGram_len sGram_len shr_rGram shr_sGram shrs_rGram shrs_sGram noSh_rGram mGram_wr mGram_n cS_t cS_f row20_len row20_sc row20_view row20_store row20_aff row20_ref row20_noSh row20_shr row20_lend row20_take row20_drop rB_len setR_noSh rErr_len sErr_len shr_rErr shr_sErr shrs_rErr shrs_sErr noSh_rErr mErr_wr mErr_n rSlot_len sSlot_len shr_rSlot shr_sSlot shrs_rSlot shrs_sSlot noSh_rSlot mSlot_wr mSlot_n rNode_len sNode_len shr_rNode shr_sNode shrs_rNode shrs_sNode noSh_rNode mNode_wr mNode_n rTree_len sTree_len shr_rTree shr_sTree shrs_rTree shrs_sTree noSh_rTree mTree_wr mTree_n rRun_len sRun_len shr_rRun shr_sRun shrs_rRun shrs_sRun noSh_rRun mRun_wr mRun_n rJob_len sJob_len shr_rJob shr_sJob shrs_rJob shrs_sJob noSh_rJob mJob_wr mJob_n rOutcome_len sOutcome_len shr_rOutcome shr_sOutcome shrs_rOutcome shrs_sOutcome noSh_rOutcome mOutcome_wr mOutcome_n rTenant_len sTenant_len shr_rTenant shr_sTenant shrs_rTenant shrs_sTenant noSh_rTenant mTenant_wr mTenant_n uTenant_wr uTenant_n rLine_len sLine_len shr_rLine shr_sLine shrs_rLine shrs_sLine noSh_rLine mLine_wr mLine_n rStore_len sStore_len shr_rStore shr_sStore shrs_rStore shrs_sStore noSh_rStore mStore_wr mStore_n uStore_wr uStore_n noSh_sOutcome noSh_sSlot noSh_sErr noSh_tenant uGram_wr uGram_n mIS_n1 mIS_wr1 mISS_n1 mISS_wr1
-- 25 loop.example/g00485/laws.markConfS
def k_laws_markConfS : K :=
 .seq (
  .reg none [⟨(some 4), none, .asn (.c (.int .i64 (0)))⟩]) (
 .seq (
  .seq (
   .reg none [⟨(some 5), none, .asn (.c (.int .i64 (0)))⟩]) (
  .block 0 (
   .loop (some ([0, 1, 5], [0, 1, 5, 1000])) (
    .seq (
     .seq (
      .reg none [⟨(some 6), none, .mv (.t 5)⟩,
        ⟨(some 7), none, .mv (.t 0)⟩,
        ⟨(some 8), none, .len (.t 7)⟩,
        ⟨(some 9), none, .bin .lss (.t 6) (.t 8)⟩]) (
     .cond (.t 9) (
      .skip) (
      .exit 0))) (
    .seq (
     .block 1 (
      .seq (
       .reg none [⟨(some 12), none, .mv (.t 0)⟩,
         ⟨(some 13), none, .mv (.t 5)⟩,
         ⟨(some 14), none, .mv (.t 1)⟩,
         ⟨(some 15), none, .iad 2 (.t 12) (.t 13)⟩,
         ⟨(some 16), none, .fad 0 (.t 15)⟩,
         ⟨none, none, .st 1 false (.t 16) (.t 14)⟩]) (
      .seq (
       .reg none [⟨(some 17), none, .mv (.t 1)⟩,
         ⟨(some 18), none, .bin .add (.t 17) (.c (.int .i64 (1)))⟩,
         ⟨(some 1), none, .asn (.t 18)⟩]) (
      .reg none [⟨(some 19), none, .mv (.t 0)⟩,
        ⟨(some 20), none, .mv (.t 5)⟩,
        ⟨(some 21), none, .iad 2 (.t 19) (.t 20)⟩,
        ⟨(some 22), none, .fad 1 (.t 21)⟩,
        ⟨(some 23), none, .ld 1 false (.t 22)⟩,
        ⟨(some 24), none, .mv (.t 1)⟩,
        ⟨(some 25), none, .callr 24 (.t 23) [(.t 23), (.t 24)]⟩,
        ⟨(some 1), none, .asn (.t 25)⟩])))) (
    .reg none [⟨(some 10), none, .mv (.t 5)⟩,
      ⟨(some 11), none, .bin .add (.t 10) (.c (.int .i64 (1)))⟩,
      ⟨(some 5), none, .asn (.t 11)⟩])))))) (
 .seq (
  .reg none [⟨(some 26), none, .mv (.t 1)⟩,
    ⟨(some 4), none, .asn (.t 26)⟩]) (
 .ret)))
def r_laws_markConfS : Nat × List RV := (27, [.t 4])

theorem c_laws_markConfS : cmpS PT PF PB (Try.prog.funcs[25]?) = some (r_laws_markConfS.1, r_laws_markConfS.2, stripK k_laws_markConfS) := by kernel_rfl

theorem h_markConfS (t : Nat) (xs : List TConf) (k : Int) (hk : 0 ≤ k) (hk2 : k + mConf.nL xs < 2 ^ 50) (hk3 : wL wConf xs < 2 ^ 50) :
    CallsB Try.prog 25 [.one (.vw t 2 1000 [] 0 xs.length), aI k] ⟨t, 2, xs.map rConf⟩ ⟨t, 2, (mConf.mkL xs k).map rConf⟩ (aI (k + mConf.nL xs)) := by
  refine PrunB c_laws_markConfS (by simp [r_laws_markConfS]) (by simp) ?_
  unfold k_laws_markConfS r_laws_markConfS
  have hlen := wL_len wConf xs
  simp
  refine awp_loop (fun n σ => ∃ i : Nat, i ≤ xs.length ∧ n = xs.length - i ∧ σ = ⟨[(0, .one (.vw t 2 1000 [] 0 xs.length)), (1, aI (mConf.pos xs k i)), (5, aI i)], [(1000, ⟨t, 2, (mConf.upto xs k i).map rConf⟩)]⟩) (xs.length) ⟨0, by simp [Mk.upto_zero, Mk.pos_zero]⟩ ?_
  rintro n σ ⟨i, hi, rfl, rfl⟩
  have hp1 : mConf.pos xs k i ≤ k + mConf.nL xs := Mk.pos_le hi
  have hp2 : k ≤ mConf.pos xs k i := Mk.pos_ge
  by_cases h : i < xs.length
  · have hw := wL_get wConf xs i h
    have hpst : mConf.pos xs k (i + 1) = mConf.pos xs k i + mConf.n xs[i] := Mk.pos_step h
    have hle : mConf.pos xs k (i + 1) ≤ k + mConf.nL xs := Mk.pos_le h
    have hst := Mk.upto_set (M := mConf) (k := k) h
    have hga := Mk.upto_at (M := mConf) (k := k) h
    have hll := Mk.upto_len (M := mConf) (xs := xs) (k := k) (i := i)
    generalize mConf.upto xs k i = us at *
    generalize hκ : mConf.pos xs k i = p0 at *
    rcases ha : xs[i] with ⟨balt, brow⟩
    simp only [ha, mConf_n, mConf_wr] at hpst hga hst
    simp only [ha, wConf] at hw
    obtain ⟨p1, hq1⟩ : ∃ p : Int, p = p0 + 1 := ⟨_, rfl⟩
    have ww0 : IntKind.i64.wrap (p0 + 1) = p1 := by rw [wrapI (by omega) (by omega), hq1]
    have nn0 : ¬ p1 < 0 := by omega
    obtain ⟨p2, hq2⟩ : ∃ p : Int, p = p1 + (mI.nL brow : Int) := ⟨_, rfl⟩
    have nn1 : ¬ p2 < 0 := by omega
    simp only [← hq1, ← hq2] at hga hst
    simp [h, hga, hll, rConf, ww0, nn0, nn1]
    have hc1 := h_markIntS 3 brow p1 (by omega) (by omega)
    rw [← hq2] at hc1
    refine callRG_F hc1 rfl rfl (by simp) (by simp) ?_
    simp [h, hga, hll, rConf, ww0, nn0, nn1]
    refine ⟨xs.length - (i + 1), by omega, i + 1, by omega, rfl, ?_⟩
    rw [wrapI (by omega) (by omega)]
    rw [← hst]
    simp [rConf]
    omega
  · have : i = xs.length := by omega
    subst this
    simp [Mk.upto_all, Mk.pos_all]
end Go.Am
-- inth
namespace Go.Am
open Go.Proofs
set_option maxHeartbeats 4000000
set_option maxRecDepth 100000
attribute [-simp] BitVec.toNat_or BitVec.toNat_and BitVec.toNat_ofInt
attribute [-simp] rConf_len sConf_len shr_rConf shr_sConf shrs_rConf shrs_sConf noSh_rConf mConf_wr mConf_n rIS_len sIS_len shr_rIS shr_sIS shrs_rIS shrs_sIS noSh_rIS rISS_len sISS_len shr_rISS shr_sISS shrs_rISS shrs_sISS noSh_rISS rGram_len sGram_len shr_rGram shr_sGram shrs_rGram shrs_sGram noSh_rGram mGram_wr mGram_n cS_t cS_f row20_len row20_sc row20_view row20_store row20_aff row20_ref row20_noSh row20_shr row20_lend row20_take row20_drop rB_len setR_noSh rErr_len sErr_len shr_rErr shr_sErr shrs_rErr shrs_sErr noSh_rErr mErr_wr mErr_n rSlot_len sSlot_len shr_rSlot shr_sSlot shrs_rSlot shrs_sSlot noSh_rSlot mSlot_wr mSlot_n rNode_len sNode_len shr_rNode shr_sNode shrs_rNode shrs_sNode noSh_rNode mNode_wr mNode_n rTree_len sTree_len shr_rTree shr_sTree shrs_rTree shrs_sTree noSh_rTree mTree_wr mTree_n rRun_len sRun_len shr_rRun shr_sRun shrs_rRun shrs_sRun noSh_rRun mRun_wr mRun_n rJob_len sJob_len shr_rJob shr_sJob shrs_rJob shrs_sJob noSh_rJob mJob_wr mJob_n rOutcome_len sOutcome_len shr_rOutcome shr_sOutcome shrs_rOutcome shrs_sOutcome noSh_rOutcome mOutcome_wr mOutcome_n rTenant_len sTenant_len shr_rTenant shr_sTenant shrs_rTenant shrs_sTenant noSh_rTenant mTenant_wr mTenant_n uTenant_wr uTenant_n rLine_len sLine_len shr_rLine shr_sLine shrs_rLine shrs_sLine noSh_rLine mLine_wr mLine_n rStore_len sStore_len shr_rStore shr_sStore shrs_rStore shrs_sStore noSh_rStore mStore_wr mStore_n uStore_wr uStore_n noSh_sOutcome noSh_sSlot noSh_sErr noSh_tenant uGram_wr uGram_n mIS_n1 mIS_wr1 mISS_n1 mISS_wr1
-- 63 loop.example/g00485/laws.heldIntS
def k_laws_heldIntS : K :=
 .seq (
  .reg none [⟨(some 4), none, .asn (.c (.int .i64 (0)))⟩]) (
 .seq (
  .seq (
   .reg none [⟨(some 5), none, .asn (.c (.int .i64 (0)))⟩]) (
  .block 0 (
   .loop (some ([0, 1, 5], [0, 1, 5, 1000])) (
    .seq (
     .seq (
      .reg none [⟨(some 6), none, .mv (.t 5)⟩,
        ⟨(some 7), none, .mv (.t 0)⟩,
        ⟨(some 8), none, .len (.t 7)⟩,
        ⟨(some 9), none, .bin .lss (.t 6) (.t 8)⟩]) (
     .cond (.t 9) (
      .skip) (
      .exit 0))) (
    .seq (
     .block 1 (
      .seq (
       .seq (
        .reg none [⟨(some 12), none, .mv (.t 0)⟩,
          ⟨(some 13), none, .mv (.t 5)⟩,
          ⟨(some 14), none, .iad 1 (.t 12) (.t 13)⟩,
          ⟨(some 15), none, .ld 1 false (.t 14)⟩,
          ⟨(some 16), none, .mv (.t 1)⟩,
          ⟨(some 17), none, .bin .neq (.t 15) (.t 16)⟩]) (
       .cond (.t 17) (
        .seq (
         .reg none [⟨(some 4), none, .asn (.c (.int .i64 (-1)))⟩]) (
        .ret)) (
        .skip))) (
      .reg none [⟨(some 18), none, .mv (.t 1)⟩,
        ⟨(some 19), none, .bin .add (.t 18) (.c (.int .i64 (1)))⟩,
        ⟨(some 1), none, .asn (.t 19)⟩]))) (
    .reg none [⟨(some 10), none, .mv (.t 5)⟩,
      ⟨(some 11), none, .bin .add (.t 10) (.c (.int .i64 (1)))⟩,
      ⟨(some 5), none, .asn (.t 11)⟩])))))) (
 .seq (
  .reg none [⟨(some 20), none, .mv (.t 1)⟩,
    ⟨(some 4), none, .asn (.t 20)⟩]) (
 .ret)))
def r_laws_heldIntS : Nat × List RV := (21, [.t 4])

theorem c_laws_heldIntS : cmpS PT PF PA (Try.prog.funcs[63]?) = some (r_laws_heldIntS.1, r_laws_heldIntS.2, stripK k_laws_heldIntS) := by kernel_rfl

theorem h_heldIntS (xs : List Int) (k : Int) (hk : 0 ≤ k) (hk2 : k + mI.nL xs < 2 ^ 50) : CallsF Try.prog 63 [.one (.ar false 0 1 ((mI.mkL xs k).map rI)), aI k] (aI (k + mI.nL xs)) := by
  refine Prun c_laws_heldIntS (by simp [r_laws_heldIntS]) (by simp) ?_
  unfold k_laws_heldIntS r_laws_heldIntS
  simp
  refine awp_loop (fun n σ => ∃ i : Nat, i ≤ xs.length ∧ n = xs.length - i ∧ σ = ⟨[(0, .one (.ar false 0 1 ((mI.mkL xs k).map rI))), (1, aI (mI.pos xs k i)), (5, aI i)], []⟩) (xs.length) ⟨0, by simp [Mk.pos_zero]⟩ ?_
  rintro n σ ⟨i, hi, rfl, rfl⟩
  have hn : (mI.nL xs : Int) = xs.length := by simp [mI_n]
  have hp1 : mI.pos xs k i ≤ k + mI.nL xs := Mk.pos_le hi
  have hp2 : k ≤ mI.pos xs k i := Mk.pos_ge
  by_cases h : i < xs.length
  · have hpst : mI.pos xs k (i + 1) = mI.pos xs k i + 1 := Mk.pos_step h
    have hle : mI.pos xs k (i + 1) ≤ k + mI.nL xs := Mk.pos_le h
    have w1 : IntKind.i64.wrap (mI.pos xs k i + 1) = mI.pos xs k (i + 1) := by rw [wrapI (by omega) (by omega), hpst]
    have w2 : IntKind.i64.wrap ((i : Int) + 1) = i + 1 := wrapI (by omega) (by omega)
    simp [h, Mk.mkL_at h, w1, w2]
    exact ⟨xs.length - (i + 1), by omega, i + 1, by omega, rfl, by simp⟩
  · have : i = xs.length := by omega
    subst this
    simp [Mk.pos_all]
end Go.Am
-- Conf_hd
namespace Go.Am
open Go.Proofs
set_option maxHeartbeats 4000000
set_option maxRecDepth 100000
attribute [-simp] BitVec.toNat_or BitVec.toNat_and BitVec.toNat_ofInt
attribute [-simp] rIS_len sIS_len shr_rIS shr_sIS shrs_rIS shrs_sIS noSh_rIS rISS_len sISS_len shr_rISS shr_sISS shrs_rISS shrs_sISS noSh_rISS rGram_len sGram_len shr_rGram shr_sGram shrs_rGram shrs_sGram noSh_rGram mGram_wr mGram_n cS_t cS_f row20_len row20_sc row20_view row20_store row20_aff row20_ref row20_noSh row20_shr row20_lend row20_take row20_drop rB_len setR_noSh rErr_len sErr_len shr_rErr shr_sErr shrs_rErr shrs_sErr noSh_rErr mErr_wr mErr_n rSlot_len sSlot_len shr_rSlot shr_sSlot shrs_rSlot shrs_sSlot noSh_rSlot mSlot_wr mSlot_n rNode_len sNode_len shr_rNode shr_sNode shrs_rNode shrs_sNode noSh_rNode mNode_wr mNode_n rTree_len sTree_len shr_rTree shr_sTree shrs_rTree shrs_sTree noSh_rTree mTree_wr mTree_n rRun_len sRun_len shr_rRun shr_sRun shrs_rRun shrs_sRun noSh_rRun mRun_wr mRun_n rJob_len sJob_len shr_rJob shr_sJob shrs_rJob shrs_sJob noSh_rJob mJob_wr mJob_n rOutcome_len sOutcome_len shr_rOutcome shr_sOutcome shrs_rOutcome shrs_sOutcome noSh_rOutcome mOutcome_wr mOutcome_n rTenant_len sTenant_len shr_rTenant shr_sTenant shrs_rTenant shrs_sTenant noSh_rTenant mTenant_wr mTenant_n uTenant_wr uTenant_n rLine_len sLine_len shr_rLine shr_sLine shrs_rLine shrs_sLine noSh_rLine mLine_wr mLine_n rStore_len sStore_len shr_rStore shr_sStore shrs_rStore shrs_sStore noSh_rStore mStore_wr mStore_n uStore_wr uStore_n noSh_sOutcome noSh_sSlot noSh_sErr noSh_tenant uGram_wr uGram_n mIS_n1 mIS_wr1 mISS_n1 mISS_wr1
-- 26 loop.example/g00485/laws.heldConfS
def k_laws_heldConfS : K :=
 .seq (
  .reg none [⟨(some 4), none, .asn (.c (.int .i64 (0)))⟩]) (
 .seq (
  .seq (
   .reg none [⟨(some 5), none, .asn (.c (.int .i64 (0)))⟩]) (
  .block 0 (
   .loop (some ([0, 1, 5], [0, 1, 5, 1000])) (
    .seq (
     .seq (
      .reg none [⟨(some 6), none, .mv (.t 5)⟩,
        ⟨(some 7), none, .mv (.t 0)⟩,
        ⟨(some 8), none, .len (.t 7)⟩,
        ⟨(some 9), none, .bin .lss (.t 6) (.t 8)⟩]) (
     .cond (.t 9) (
      .skip) (
      .exit 0))) (
    .seq (
     .block 1 (
      .seq (
       .seq (
        .reg none [⟨(some 12), none, .mv (.t 0)⟩,
          ⟨(some 13), none, .mv (.t 5)⟩,
          ⟨(some 14), none, .iad 2 (.t 12) (.t 13)⟩,
          ⟨(some 15), none, .fad 0 (.t 14)⟩,
          ⟨(some 16), none, .ld 1 false (.t 15)⟩,
          ⟨(some 17), none, .mv (.t 1)⟩,
          ⟨(some 18), none, .bin .neq (.t 16) (.t 17)⟩]) (
       .cond (.t 18) (
        .seq (
         .reg none [⟨(some 4), none, .asn (.c (.int .i64 (-1)))⟩]) (
        .ret)) (
        .skip))) (
      .seq (
       .reg none [⟨(some 19), none, .mv (.t 1)⟩,
         ⟨(some 20), none, .bin .add (.t 19) (.c (.int .i64 (1)))⟩,
         ⟨(some 1), none, .asn (.t 20)⟩]) (
      .seq (
       .reg none [⟨(some 21), none, .mv (.t 0)⟩,
         ⟨(some 22), none, .mv (.t 5)⟩,
         ⟨(some 23), none, .iad 2 (.t 21) (.t 22)⟩,
         ⟨(some 24), none, .fad 1 (.t 23)⟩,
         ⟨(some 25), none, .ld 1 false (.t 24)⟩,
         ⟨(some 26), none, .mv (.t 1)⟩,
         ⟨(some 27), none, .call 63 [(.t 25), (.t 26)]⟩,
         ⟨(some 1), none, .asn (.t 27)⟩]) (
      .seq (
       .reg none [⟨(some 28), none, .mv (.t 1)⟩,
         ⟨(some 29), none, .bin .lss (.t 28) (.c (.int .i64 (0)))⟩]) (
      .cond (.t 29) (
       .seq (
        .reg none [⟨(some 4), none, .asn (.c (.int .i64 (-1)))⟩]) (
       .ret)) (
       .skip))))))) (
    .reg none [⟨(some 10), none, .mv (.t 5)⟩,
      ⟨(some 11), none, .bin .add (.t 10) (.c (.int .i64 (1)))⟩,
      ⟨(some 5), none, .asn (.t 11)⟩])))))) (
 .seq (
  .reg none [⟨(some 30), none, .mv (.t 1)⟩,
    ⟨(some 4), none, .asn (.t 30)⟩]) (
 .ret)))
def r_laws_heldConfS : Nat × List RV := (31, [.t 4])

theorem c_laws_heldConfS : cmpS PT PF PA (Try.prog.funcs[26]?) = some (r_laws_heldConfS.1, r_laws_heldConfS.2, stripK k_laws_heldConfS) := by kernel_rfl

theorem h_heldConfS (xs : List TConf) (k : Int) (hk : 0 ≤ k) (hk2 : k + mConf.nL xs < 2 ^ 50) (hk3 : wL wConf xs < 2 ^ 50) : CallsF Try.prog 26 [.one (.ar false 0 2 ((mConf.mkL xs k).map sConf)), aI k] (aI (k + mConf.nL xs)) := by
  refine Prun c_laws_heldConfS (by simp [r_laws_heldConfS]) (by simp) ?_
  unfold k_laws_heldConfS r_laws_heldConfS
  have hlen := wL_len wConf xs
  simp
  refine awp_loop (fun n σ => ∃ i : Nat, i ≤ xs.length ∧ n = xs.length - i ∧ σ = ⟨[(0, .one (.ar false 0 2 ((mConf.mkL xs k).map sConf))), (1, aI (mConf.pos xs k i)), (5, aI i)], []⟩) (xs.length) ⟨0, by simp [Mk.pos_zero]⟩ ?_
  rintro n σ ⟨i, hi, rfl, rfl⟩
  have hp1 : mConf.pos xs k i ≤ k + mConf.nL xs := Mk.pos_le hi
  have hp2 : k ≤ mConf.pos xs k i := Mk.pos_ge
  by_cases h : i < xs.length
  · have hw := wL_get wConf xs i h
    have hpst : mConf.pos xs k (i + 1) = mConf.pos xs k i + mConf.n xs[i] := Mk.pos_step h
    have hle : mConf.pos xs k (i + 1) ≤ k + mConf.nL xs := Mk.pos_le h
    have hga := Mk.mkL_at (M := mConf) (k := k) h
    generalize hκ : mConf.pos xs k i = p0 at *
    rcases ha : xs[i] with ⟨balt, brow⟩
    simp only [ha, mConf_n, mConf_wr] at hpst hga
    simp only [ha, wConf] at hw
    obtain ⟨p1, hq1⟩ : ∃ p : Int, p = p0 + 1 := ⟨_, rfl⟩
    have ww0 : IntKind.i64.wrap (p0 + 1) = p1 := by rw [wrapI (by omega) (by omega), hq1]
    have nn0 : ¬ p1 < 0 := by omega
    obtain ⟨p2, hq2⟩ : ∃ p : Int, p = p1 + (mI.nL brow : Int) := ⟨_, rfl⟩
    have nn1 : ¬ p2 < 0 := by omega
    simp only [← hq1, ← hq2] at hga
    simp [h, hga, sConf, ww0, nn0, nn1]
    have hc1 := h_heldIntS brow p1 (by omega) (by omega)
    rw [← hq2] at hc1
    refine callG_F hc1 (by simp) ?_
    simp [h, hga, sConf, ww0, nn0, nn1]
    refine ⟨xs.length - (i + 1), by omega, i + 1, by omega, rfl, ?_⟩
    rw [wrapI (by omega) (by omega)]
    simp; omega
  · have : i = xs.length := by omega
    subst this
    simp [Mk.pos_all]
end Go.Am
-- L_SetStart
namespace Go.Am
open Go.Proofs
set_option maxHeartbeats 4000000
set_option maxRecDepth 100000
attribute [-simp] BitVec.toNat_or BitVec.toNat_and BitVec.toNat_ofInt
theorem closO_bound {ps : Parts} {i S : List TConf} (h : closO ps i = some S) : S.length ≤ 30 ∧ ∀ x ∈ S, x.row.length ≤ 200 := by
  unfold closO at h
  split at h
  · rename_i hx
    obtain ⟨W, hd⟩ := hx.choose_spec
    simp only [Option.some.injEq] at h
    rw [h] at hd
    exact ⟨hd.ls, fun x hxs => (hd.all x (hd.rs x hxs).1).1⟩
  · cases h
theorem wL_bound {w : TConf → Nat} {m : Nat} : ∀ {S : List TConf}, (∀ x ∈ S, w x ≤ m) → wL w S ≤ S.length * (m + 1)
  | [], _ => by simp [wL]
  | x :: S, h => by
    have h1 := h x (List.mem_cons_self ..)
    have h2 := wL_bound (S := S) fun y hy => h y (List.mem_cons_of_mem _ hy)
    simp only [wL, List.length_cons, Nat.add_mul]
    omega
theorem closO_w {ps : Parts} {i : List TConf} : wL wConf ((closO ps i).getD []) ≤ 10000 := by
  cases h : closO ps i with
  | none => simp [wL]
  | some S =>
    obtain ⟨h1, h2⟩ := closO_bound h
    have h3 := wL_bound (w := wConf) (m := 200) (S := S) fun x hx => by simp only [wConf, wL_w0]; exact h2 x hx
    have : S.length * 201 ≤ 30 * 201 := Nat.mul_le_mul_right _ h1
    simp only [Option.getD_some]
    omega
theorem startG_w (g : TGram) (k : Int) (rest : List Int) : wL wConf ((startG g k rest).getD []) ≤ 10000 := by
  unfold startG startO
  split
  · split
    · exact closO_w
    · simp [wL]
  · simp [wL]
theorem setR_eq (o : Option (List TConf)) : setR o = .tup [(false, [.ar true 96 2 ((o.getD []).map rConf)]), (false, [.bool o.isSome])] := by
  cases o <;> simp [setR, noSet]
theorem setB_eq (b : Bool) (o : Option (List TConf)) : ∃ b', setB b o = .tup [(false, [cS b' (o.getD [])]), (false, [.bool o.isSome])] := by
  cases o with
  | none => exact ⟨true, rfl⟩
  | some S => exact ⟨b, rfl⟩
theorem mConf_nL' : ∀ xs : List TConf, mConf.nL xs = wL wConf xs
  | [] => rfl
  | x :: xs => by rw [Mk.nL, mConf_nL' xs]; simp [wL, wConf, wL_w0, mI_n]; try omega
theorem uGram_le (g : TGram) : uGram.n g ≤ 16 * wGram g := by
  have h1 : ∀ xs : List (List Int), mI.L.nL xs ≤ 16 * wL (wL w0) xs := nL_le _ _ fun x => by
    have := nI_le x
    simp only [mIS_n1]; omega
  have h2 : ∀ xs : List (List (List Int)), mI.L.L.nL xs ≤ 16 * wL (wL (wL w0)) xs := nL_le _ _ fun x => by
    have := h1 x
    simp only [mISS_n1]; omega
  exact h2 g.parts
-- 4 loop.example/g00485/laws.FnExactSetStart
def k_laws_FnExactSetStart : K :=
 .seq (
  .reg none [⟨(some 3), none, .box 33 1 (.t 0)⟩,
    ⟨(some 6), none, .asn (.c (.bool false))⟩]) (
 .seq (
  .seq (
   .reg none [⟨(some 19), none, .mv (.t 2)⟩,
     ⟨(some 20), none, .len (.t 19)⟩,
     ⟨(some 21), none, .bin .gtr (.t 20) (.c (.int .i64 (1048576)))⟩]) (
  .cond (.t 21) (
   .seq (
    .reg none [⟨(some 6), none, .asn (.c (.bool true))⟩]) (
   .ret)) (
   .skip))) (
 .seq (
  .reg none [⟨(some 7), none, .asn (.c (.int .i64 (1048576)))⟩]) (
 .seq (
  .reg none [⟨(some 22), none, .ld 1 true (.t 3)⟩,
    ⟨(some 23), none, .mv (.t 7)⟩,
    ⟨(some 24), none, .call 15 [(.t 22), (.t 23)]⟩,
    ⟨(some 7), none, .asn (.t 24)⟩]) (
 .seq (
  .seq (
   .reg none [⟨(some 25), none, .mv (.t 7)⟩,
     ⟨(some 26), none, .bin .lss (.t 25) (.c (.int .i64 (0)))⟩]) (
  .cond (.t 26) (
   .seq (
    .reg none [⟨(some 6), none, .asn (.c (.bool true))⟩]) (
   .ret)) (
   .skip))) (
 .seq (
  .reg none [⟨(some 28), none, .ld 1 true (.t 3)⟩,
    ⟨(some 29), none, .call 17 [(.t 28)]⟩,
    ⟨(some 30), none, .mv (.t 1)⟩,
    ⟨(some 31), none, .mv (.t 2)⟩,
    ⟨(some 32), none, .call 18 [(.t 31)]⟩,
    ⟨(some 33), none, .callz 16 [29, 32] [(.t 29), (.t 30), (.t 32)]⟩,
    ⟨(some 27), none, .mv (.t 33)⟩,
    ⟨(some 34), none, .ext 0 (.t 27)⟩,
    ⟨(some 35), none, .ext 1 (.t 27)⟩,
    ⟨(some 8), none, .asn (.t 34)⟩,
    ⟨(some 9), none, .asn (.t 35)⟩]) (
 .seq (
  .reg none [⟨(some 36), none, .ld 1 true (.t 3)⟩,
    ⟨(some 37), none, .call 17 [(.t 36)]⟩,
    ⟨(some 10), none, .alc 39 1 [(.ar true 90 1 [])]⟩,
    ⟨none, none, .st 1 false (.t 10) (.t 37)⟩]) (
 .seq (
  .reg none [⟨(some 38), none, .mv (.t 2)⟩,
    ⟨(some 39), none, .call 18 [(.t 38)]⟩,
    ⟨(some 11), none, .asn (.t 39)⟩]) (
 .seq (
  .reg none [⟨(some 41), none, .ld 1 true (.t 10)⟩,
    ⟨(some 42), none, .mv (.t 1)⟩,
    ⟨(some 43), none, .mv (.t 11)⟩,
    ⟨(some 44), none, .call 19 [(.t 41), (.t 42), (.t 43)]⟩,
    ⟨(some 40), none, .mv (.t 44)⟩,
    ⟨(some 45), none, .ext 0 (.t 40)⟩,
    ⟨(some 46), none, .ext 1 (.t 40)⟩,
    ⟨(some 12), none, .asn (.t 45)⟩,
    ⟨(some 13), none, .asn (.t 46)⟩]) (
 .seq (
  .seq (
   .reg none [⟨(some 47), none, .mv (.t 12)⟩,
     ⟨(some 48), none, .mv (.t 8)⟩,
     ⟨(some 49), none, .call 20 [(.t 47), (.t 48)]⟩,
     ⟨(some 50), none, .not (.t 49)⟩,
     ⟨(some 51), none, .mv (.t 50)⟩,
     ⟨(some 52), (some (51, false)), .mv (.t 13)⟩,
     ⟨(some 53), (some (51, false)), .mv (.t 9)⟩,
     ⟨(some 54), (some (51, false)), .beq true (.t 52) (.t 53)⟩,
     ⟨(some 55), none, .pick (.t 51) (.c (.bool true)) (.t 54)⟩]) (
  .cond (.t 55) (
   .seq (
    .reg none [⟨(some 6), none, .asn (.c (.bool false))⟩]) (
   .ret)) (
   .skip))) (
 .seq (
  .seq (
   .grp none 3 [0, 1] [2] [⟨(some 56), none, .ld 1 true (.t 10)⟩,
     ⟨(some 57), none, .ld 1 true (.t 3)⟩,
     ⟨(some 58), none, .call 17 [(.t 57)]⟩,
     ⟨(some 59), none, .call 21 [(.t 56), (.t 58)]⟩,
     ⟨(some 60), none, .not (.t 59)⟩]) (
  .cond (.t 60) (
   .seq (
    .reg none [⟨(some 6), none, .asn (.c (.bool false))⟩]) (
   .ret)) (
   .skip))) (
 .seq (
  .seq (
   .reg none [⟨(some 61), none, .mv (.t 11)⟩,
     ⟨(some 62), none, .mv (.t 2)⟩,
     ⟨(some 63), none, .call 18 [(.t 62)]⟩,
     ⟨(some 64), none, .call 22 [(.t 61), (.t 63)]⟩,
     ⟨(some 65), none, .not (.t 64)⟩]) (
  .cond (.t 65) (
   .seq (
    .reg none [⟨(some 6), none, .asn (.c (.bool false))⟩]) (
   .ret)) (
   .skip))) (
 .seq (
  .reg none [⟨(some 14), none, .asn (.c (.int .i64 (1)))⟩]) (
 .seq (
  .reg none [⟨(some 66), none, .ld 1 true (.t 10)⟩,
    ⟨(some 67), none, .mv (.t 14)⟩,
    ⟨(some 68), none, .callr 23 (.t 66) [(.t 66), (.t 67)]⟩,
    ⟨(some 14), none, .asn (.t 68)⟩]) (
 .seq (
  .reg none [⟨(some 69), none, .mv (.t 11)⟩,
    ⟨(some 70), none, .mv (.t 14)⟩,
    ⟨(some 71), none, .callr 24 (.t 69) [(.t 69), (.t 70)]⟩,
    ⟨(some 14), none, .asn (.t 71)⟩]) (
 .seq (
  .seq (
   .reg none [⟨(some 72), none, .mv (.t 14)⟩,
     ⟨(some 73), none, .bin .lss (.t 72) (.c (.int .i64 (0)))⟩,
     ⟨(some 74), none, .mv (.t 73)⟩,
     ⟨(some 75), (some (74, false)), .mv (.t 12)⟩,
     ⟨(some 76), (some (74, false)), .mv (.t 8)⟩,
     ⟨(some 77), (some (74, false)), .call 20 [(.t 75), (.t 76)]⟩,
     ⟨(some 78), (some (74, false)), .not (.t 77)⟩,
     ⟨(some 79), none, .pick (.t 74) (.c (.bool true)) (.t 78)⟩,
     ⟨(some 80), none, .mv (.t 79)⟩,
     ⟨(some 81), (some (80, false)), .mv (.t 13)⟩,
     ⟨(some 82), (some (80, false)), .mv (.t 9)⟩,
     ⟨(some 83), (some (80, false)), .beq true (.t 81) (.t 82)⟩,
     ⟨(some 84), none, .pick (.t 80) (.c (.bool true)) (.t 83)⟩]) (
  .cond (.t 84) (
   .seq (
    .reg none [⟨(some 6), none, .asn (.c (.bool false))⟩]) (
   .ret)) (
   .skip))) (
 .seq (
  .reg none [⟨(some 15), none, .asn (.c (.int .i64 (1)))⟩]) (
 .seq (
  .reg none [⟨(some 85), none, .mv (.t 12)⟩,
    ⟨(some 86), none, .mv (.t 15)⟩,
    ⟨(some 87), none, .callr 25 (.t 85) [(.t 85), (.t 86)]⟩,
    ⟨(some 15), none, .asn (.t 87)⟩]) (
 .seq (
  .reg none [⟨(some 16), none, .asn (.c (.int .i64 (1)))⟩]) (
 .seq (
  .reg none [⟨(some 88), none, .mv (.t 12)⟩,
    ⟨(some 89), none, .mv (.t 16)⟩,
    ⟨(some 90), none, .call 26 [(.t 88), (.t 89)]⟩,
    ⟨(some 16), none, .asn (.t 90)⟩]) (
 .seq (
  .seq (
   .reg none [⟨(some 91), none, .mv (.t 16)⟩,
     ⟨(some 92), none, .bin .lss (.t 91) (.c (.int .i64 (0)))⟩]) (
  .cond (.t 92) (
   .seq (
    .reg none [⟨(some 6), none, .asn (.c (.bool false))⟩]) (
   .ret)) (
   .skip))) (
 .seq (
  .seq (
   .reg none [⟨(some 93), none, .mv (.t 16)⟩,
     ⟨(some 94), none, .mv (.t 15)⟩,
     ⟨(some 95), none, .bin .neq (.t 93) (.t 94)⟩]) (
  .cond (.t 95) (
   .seq (
    .reg none [⟨(some 6), none, .asn (.c (.bool false))⟩]) (
   .ret)) (
   .skip))) (
 .seq (
  .reg none [⟨(some 97), none, .ld 1 true (.t 3)⟩,
    ⟨(some 98), none, .call 17 [(.t 97)]⟩,
    ⟨(some 99), none, .mv (.t 1)⟩,
    ⟨(some 100), none, .mv (.t 2)⟩,
    ⟨(some 101), none, .call 18 [(.t 100)]⟩,
    ⟨(some 102), none, .call 19 [(.t 98), (.t 99), (.t 101)]⟩,
    ⟨(some 96), none, .mv (.t 102)⟩,
    ⟨(some 103), none, .ext 0 (.t 96)⟩,
    ⟨(some 104), none, .ext 1 (.t 96)⟩,
    ⟨(some 17), none, .asn (.t 103)⟩,
    ⟨(some 18), none, .asn (.t 104)⟩]) (
 .seq (
  .seq (
   .reg none [⟨(some 105), none, .mv (.t 17)⟩,
     ⟨(some 106), none, .mv (.t 8)⟩,
     ⟨(some 107), none, .call 20 [(.t 105), (.t 106)]⟩,
     ⟨(some 108), none, .not (.t 107)⟩,
     ⟨(some 109), none, .mv (.t 108)⟩,
     ⟨(some 110), (some (109, false)), .mv (.t 18)⟩,
     ⟨(some 111), (some (109, false)), .mv (.t 9)⟩,
     ⟨(some 112), (some (109, false)), .beq true (.t 110) (.t 111)⟩,
     ⟨(some 113), none, .pick (.t 109) (.c (.bool true)) (.t 112)⟩]) (
  .cond (.t 113) (
   .seq (
    .reg none [⟨(some 6), none, .asn (.c (.bool false))⟩]) (
   .ret)) (
   .skip))) (
 .seq (
  .reg none [⟨(some 16), none, .asn (.c (.int .i64 (1)))⟩]) (
 .seq (
  .reg none [⟨(some 114), none, .mv (.t 12)⟩,
    ⟨(some 115), none, .mv (.t 16)⟩,
    ⟨(some 116), none, .call 26 [(.t 114), (.t 115)]⟩,
    ⟨(some 16), none, .asn (.t 116)⟩]) (
 .seq (
  .seq (
   .reg none [⟨(some 117), none, .mv (.t 16)⟩,
     ⟨(some 118), none, .bin .lss (.t 117) (.c (.int .i64 (0)))⟩]) (
  .cond (.t 118) (
   .seq (
    .reg none [⟨(some 6), none, .asn (.c (.bool false))⟩]) (
   .ret)) (
   .skip))) (
 .seq (
  .seq (
   .reg none [⟨(some 119), none, .mv (.t 16)⟩,
     ⟨(some 120), none, .mv (.t 15)⟩,
     ⟨(some 121), none, .bin .neq (.t 119) (.t 120)⟩]) (
  .cond (.t 121) (
   .seq (
    .reg none [⟨(some 6), none, .asn (.c (.bool false))⟩]) (
   .ret)) (
   .skip))) (
 .seq (
  .reg none [⟨(some 6), none, .asn (.c (.bool true))⟩]) (
 .ret)))))))))))))))))))))))))))))
def r_laws_FnExactSetStart : Nat × List RV := (122, [.t 6])

theorem c_laws_FnExactSetStart : cmpS PT PF PA (Try.prog.funcs[4]?) = some (r_laws_FnExactSetStart.1, r_laws_FnExactSetStart.2, stripK k_laws_FnExactSetStart) := by kernel_rfl

set_option maxRecDepth 100000 in
theorem h_law_SetStart (g : TGram) (hlg : lGram g) (k : Int) (rest : List Int) (hlr : lL l0 rest) : CallsF Try.prog 4 [.agg (sGram g), aI k, .one (.ar false 0 1 (rest.map rI))] (aB true) := by
  refine Prun c_laws_FnExactSetStart (by simp [r_laws_FnExactSetStart]) (by simp) ?_
  unfold k_laws_FnExactSetStart r_laws_FnExactSetStart
  have hsz := h_szGram g 1048576 hlg (by omega) (by omega)
  obtain ⟨ps⟩ := g
  simp only [sGram] at hsz
  simp [sGram]
  by_cases g0 : (1048576 : Int) < rest.length
  · simp [g0]
  simp [g0]
  refine callG_F hsz (by simp) ?_
  by_cases g1 : (1048576 : Int) < (wGram ⟨ps⟩ : Int)
  · simp [lft_neg g1]
  have e1 : lft 1048576 (wGram ⟨ps⟩) = 1048576 - wGram ⟨ps⟩ := lft_pos (by omega)
  have n1 : ¬ (1048576 : Int) - wGram ⟨ps⟩ < 0 := by omega
  simp [e1, n1]
  have htg := h_toGram ⟨ps⟩ (by omega)
  have htr := h_toIntS rest (by rw [wL_w0]; omega)
  have hs := h_spec_SetStart ⟨ps⟩ k rest (by omega) hlg hlr (by omega)
  have hi := h_impl_SetStart ⟨ps⟩ k rest (by omega) hlg hlr
  have hSw := startG_w ⟨ps⟩ k rest
  have hsB := fun b => setB_eq b (startG ⟨ps⟩ k rest)
  rw [setR_eq] at hi
  generalize startG ⟨ps⟩ k rest = o at *
  generalize o.isSome = fl at *
  generalize o.getD [] = L at *
  have heL := h_eqConfS L (by omega)
  have heg := h_eqGram ⟨ps⟩ (by omega)
  have her := h_eqIntS rest (by rw [wL_w0]; omega)
  have hug := uGram_le ⟨ps⟩
  have hmg := h_markGram ⟨ps⟩ 1 (by omega) (by omega) (by omega)
  have hmr := h_markIntS 3 rest (1 + uGram.n ⟨ps⟩) (by omega) (by rw [mI_n]; omega)
  have hmL := h_markConfS 96 L 1 (by omega) (by rw [mConf_nL']; omega) (by omega)
  have hhL := h_heldConfS L 1 (by omega) (by rw [mConf_nL']; omega) (by omega)
  simp only [sGram, rGram] at htg hs hi heg
  simp only [uGram_n] at hug hmg hmr
  generalize mI.L.L.nL ps = ng at *
  have n2 : ¬ (1 + (ng : Int) < 0) := by omega
  have n3 : ¬ (1 + (ng : Int) + rest.length < 0) := by omega
  have n4 : ¬ (1 + (wL wConf L : Int) < 0) := by omega
  simp only [mI_n] at hmr
  simp only [mConf_nL'] at hmL hhL
  first | refine callG_F htg (by simp) ?_ | refine callOG_F htg (by simp) ?_ | refine gcal_F htg (by simp) ?_ | refine callRG_F htg rfl rfl (by simp) (by simp) ?_ | refine ⟨_, by simp, htg, ?_⟩
  try simp
  first | refine callG_F htr (by simp) ?_ | refine callOG_F htr (by simp) ?_ | refine gcal_F htr (by simp) ?_ | refine callRG_F htr rfl rfl (by simp) (by simp) ?_ | refine ⟨_, by simp, htr, ?_⟩
  try simp
  refine CallsA.mono hs ?_
  rintro r H ⟨rfl, b, rfl⟩
  obtain ⟨b', hb'⟩ := hsB b
  rw [hb']
  clear hsB hb' hs
  refine ⟨rfl, by simp, ?_⟩
  cases b'
  all_goals
    simp
    first | refine callG_F htg (by simp) ?_ | refine callOG_F htg (by simp) ?_ | refine gcal_F htg (by simp) ?_ | refine callRG_F htg rfl rfl (by simp) (by simp) ?_ | refine ⟨_, by simp, htg, ?_⟩
    try simp [n2, n3, n4]
    first | refine callG_F htr (by simp) ?_ | refine callOG_F htr (by simp) ?_ | refine gcal_F htr (by simp) ?_ | refine callRG_F htr rfl rfl (by simp) (by simp) ?_ | refine ⟨_, by simp, htr, ?_⟩
    try simp [n2, n3, n4]
    first | refine callG_F hi (by simp) ?_ | refine callOG_F hi (by simp) ?_ | refine gcal_F hi (by simp) ?_ | refine callRG_F hi rfl rfl (by simp) (by simp) ?_ | refine ⟨_, by simp, hi, ?_⟩
    try simp [n2, n3, n4]
    first | refine callG_F heL (by simp) ?_ | refine callOG_F heL (by simp) ?_ | refine gcal_F heL (by simp) ?_ | refine callRG_F heL rfl rfl (by simp) (by simp) ?_ | refine ⟨_, by simp, heL, ?_⟩
    try simp [n2, n3, n4]
    first | refine callG_F htg (by simp) ?_ | refine callOG_F htg (by simp) ?_ | refine gcal_F htg (by simp) ?_ | refine callRG_F htg rfl rfl (by simp) (by simp) ?_ | refine ⟨_, by simp, htg, ?_⟩
    try simp [n2, n3, n4]
    first | refine callG_F heg (by simp) ?_ | refine callOG_F heg (by simp) ?_ | refine gcal_F heg (by simp) ?_ | refine callRG_F heg rfl rfl (by simp) (by simp) ?_ | refine ⟨_, by simp, heg, ?_⟩
    try simp [n2, n3, n4]
    first | refine callG_F htr (by simp) ?_ | refine callOG_F htr (by simp) ?_ | refine gcal_F htr (by simp) ?_ | refine callRG_F htr rfl rfl (by simp) (by simp) ?_ | refine ⟨_, by simp, htr, ?_⟩
    try simp [n2, n3, n4]
    first | refine callG_F her (by simp) ?_ | refine callOG_F her (by simp) ?_ | refine gcal_F her (by simp) ?_ | refine callRG_F her rfl rfl (by simp) (by simp) ?_ | refine ⟨_, by simp, her, ?_⟩
    try simp [n2, n3, n4]
    first | refine callG_F hmg (by simp) ?_ | refine callOG_F hmg (by simp) ?_ | refine gcal_F hmg (by simp) ?_ | refine callRG_F hmg rfl rfl (by simp) (by simp) ?_ | refine ⟨_, by simp, hmg, ?_⟩
    try simp [n2, n3, n4]
    first | refine callG_F hmr (by simp) ?_ | refine callOG_F hmr (by simp) ?_ | refine gcal_F hmr (by simp) ?_ | refine callRG_F hmr rfl rfl (by simp) (by simp) ?_ | refine ⟨_, by simp, hmr, ?_⟩
    try simp [n2, n3, n4]
    first | refine callG_F heL (by simp) ?_ | refine callOG_F heL (by simp) ?_ | refine gcal_F heL (by simp) ?_ | refine callRG_F heL rfl rfl (by simp) (by simp) ?_ | refine ⟨_, by simp, heL, ?_⟩
    try simp [n2, n3, n4]
    first | refine callG_F hmL (by simp) ?_ | refine callOG_F hmL (by simp) ?_ | refine gcal_F hmL (by simp) ?_ | refine callRG_F hmL rfl rfl (by simp) (by simp) ?_ | refine ⟨_, by simp, hmL, ?_⟩
    try simp [n2, n3, n4]
    first | refine callG_F hhL (by simp) ?_ | refine callOG_F hhL (by simp) ?_ | refine gcal_F hhL (by simp) ?_ | refine callRG_F hhL rfl rfl (by simp) (by simp) ?_ | refine ⟨_, by simp, hhL, ?_⟩
    try simp [n2, n3, n4]
    first | refine callG_F htg (by simp) ?_ | refine callOG_F htg (by simp) ?_ | refine gcal_F htg (by simp) ?_ | refine callRG_F htg rfl rfl (by simp) (by simp) ?_ | refine ⟨_, by simp, htg, ?_⟩
    try simp [n2, n3, n4]
    first | refine callG_F htr (by simp) ?_ | refine callOG_F htr (by simp) ?_ | refine gcal_F htr (by simp) ?_ | refine callRG_F htr rfl rfl (by simp) (by simp) ?_ | refine ⟨_, by simp, htr, ?_⟩
    try simp [n2, n3, n4]
    first | refine callG_F hi (by simp) ?_ | refine callOG_F hi (by simp) ?_ | refine gcal_F hi (by simp) ?_ | refine callRG_F hi rfl rfl (by simp) (by simp) ?_ | refine ⟨_, by simp, hi, ?_⟩
    try simp [n2, n3, n4]
    first | refine callG_F heL (by simp) ?_ | refine callOG_F heL (by simp) ?_ | refine gcal_F heL (by simp) ?_ | refine callRG_F heL rfl rfl (by simp) (by simp) ?_ | refine ⟨_, by simp, heL, ?_⟩
    try simp [n2, n3, n4]
    first | refine callG_F hhL (by simp) ?_ | refine callOG_F hhL (by simp) ?_ | refine gcal_F hhL (by simp) ?_ | refine callRG_F hhL rfl rfl (by simp) (by simp) ?_ | refine ⟨_, by simp, hhL, ?_⟩
    try simp [n2, n3, n4]
end Go.Am
-- Conf_to1
namespace Go.Am
open Go.Proofs
set_option maxHeartbeats 4000000
set_option maxRecDepth 100000
attribute [-simp] BitVec.toNat_or BitVec.toNat_and BitVec.toNat_ofInt
attribute [-simp] rIS_len sIS_len shr_rIS shr_sIS shrs_rIS shrs_sIS noSh_rIS rISS_len sISS_len shr_rISS shr_sISS shrs_rISS shrs_sISS noSh_rISS rGram_len sGram_len shr_rGram shr_sGram shrs_rGram shrs_sGram noSh_rGram mGram_wr mGram_n cS_t cS_f row20_len row20_sc row20_view row20_store row20_aff row20_ref row20_noSh row20_shr row20_lend row20_take row20_drop rB_len setR_noSh rErr_len sErr_len shr_rErr shr_sErr shrs_rErr shrs_sErr noSh_rErr mErr_wr mErr_n rSlot_len sSlot_len shr_rSlot shr_sSlot shrs_rSlot shrs_sSlot noSh_rSlot mSlot_wr mSlot_n rNode_len sNode_len shr_rNode shr_sNode shrs_rNode shrs_sNode noSh_rNode mNode_wr mNode_n rTree_len sTree_len shr_rTree shr_sTree shrs_rTree shrs_sTree noSh_rTree mTree_wr mTree_n rRun_len sRun_len shr_rRun shr_sRun shrs_rRun shrs_sRun noSh_rRun mRun_wr mRun_n rJob_len sJob_len shr_rJob shr_sJob shrs_rJob shrs_sJob noSh_rJob mJob_wr mJob_n rOutcome_len sOutcome_len shr_rOutcome shr_sOutcome shrs_rOutcome shrs_sOutcome noSh_rOutcome mOutcome_wr mOutcome_n rTenant_len sTenant_len shr_rTenant shr_sTenant shrs_rTenant shrs_sTenant noSh_rTenant mTenant_wr mTenant_n uTenant_wr uTenant_n rLine_len sLine_len shr_rLine shr_sLine shrs_rLine shrs_sLine noSh_rLine mLine_wr mLine_n rStore_len sStore_len shr_rStore shr_sStore shrs_rStore shrs_sStore noSh_rStore mStore_wr mStore_n uStore_wr uStore_n noSh_sOutcome noSh_sSlot noSh_sErr noSh_tenant uGram_wr uGram_n mIS_n1 mIS_wr1 mISS_n1 mISS_wr1
-- 74 loop.example/g00485/laws.toConf
def k_laws_toConf : K :=
 .seq (
  .reg none [⟨(some 1), none, .box 109 2 (.t 0)⟩,
    ⟨(some 2), none, .alc 96 2 [(.int .i64 (0)), (.ar true 3 1 [])]⟩]) (
 .seq (
  .reg none [⟨(some 3), none, .alc 96 2 [(.int .i64 (0)), (.ar true 3 1 [])]⟩]) (
 .seq (
  .reg none [⟨(some 4), none, .fad 0 (.t 1)⟩,
    ⟨(some 5), none, .ld 1 false (.t 4)⟩,
    ⟨(some 6), none, .fad 0 (.t 3)⟩,
    ⟨none, none, .st 1 false (.t 6) (.t 5)⟩]) (
 .seq (
  .reg none [⟨(some 7), none, .fad 1 (.t 1)⟩,
    ⟨(some 8), none, .ld 1 false (.t 7)⟩,
    ⟨(some 9), none, .call 18 [(.t 8)]⟩,
    ⟨(some 10), none, .fad 1 (.t 3)⟩,
    ⟨none, none, .st 1 false (.t 10) (.t 9)⟩]) (
 .seq (
  .reg none [⟨(some 11), none, .ld 2 true (.t 3)⟩,
    ⟨none, none, .st 2 false (.t 2) (.t 11)⟩]) (
 .ret)))))
def r_laws_toConf : Nat × List RV := (12, [.c 2 2 true])

theorem c_laws_toConf : cmpS PT PF PA (Try.prog.funcs[74]?) = some (r_laws_toConf.1, r_laws_toConf.2, stripK k_laws_toConf) := by kernel_rfl

theorem h_toConf (a : TConf) (ha : wConf a < 2 ^ 31) : CallsF Try.prog 74 [.agg (sConf a)] (.agg (rConf a)) := by
  refine Prun c_laws_toConf (by simp [r_laws_toConf]) (by simp) ?_
  unfold k_laws_toConf r_laws_toConf
  simp only [wConf] at ha
  simp [sConf]
  refine callG_F (h_toIntS a.row (by omega)) (by simp) ?_
  simp [rConf]
end Go.Am
-- Conf_to
namespace Go.Am
open Go.Proofs
set_option maxHeartbeats 4000000
set_option maxRecDepth 100000
attribute [-simp] BitVec.toNat_or BitVec.toNat_and BitVec.toNat_ofInt
attribute [-simp] rIS_len sIS_len shr_rIS shr_sIS shrs_rIS shrs_sIS noSh_rIS rISS_len sISS_len shr_rISS shr_sISS shrs_rISS shrs_sISS noSh_rISS rGram_len sGram_len shr_rGram shr_sGram shrs_rGram shrs_sGram noSh_rGram mGram_wr mGram_n cS_t cS_f row20_len row20_sc row20_view row20_store row20_aff row20_ref row20_noSh row20_shr row20_lend row20_take row20_drop rB_len setR_noSh rErr_len sErr_len shr_rErr shr_sErr shrs_rErr shrs_sErr noSh_rErr mErr_wr mErr_n rSlot_len sSlot_len shr_rSlot shr_sSlot shrs_rSlot shrs_sSlot noSh_rSlot mSlot_wr mSlot_n rNode_len sNode_len shr_rNode shr_sNode shrs_rNode shrs_sNode noSh_rNode mNode_wr mNode_n rTree_len sTree_len shr_rTree shr_sTree shrs_rTree shrs_sTree noSh_rTree mTree_wr mTree_n rRun_len sRun_len shr_rRun shr_sRun shrs_rRun shrs_sRun noSh_rRun mRun_wr mRun_n rJob_len sJob_len shr_rJob shr_sJob shrs_rJob shrs_sJob noSh_rJob mJob_wr mJob_n rOutcome_len sOutcome_len shr_rOutcome shr_sOutcome shrs_rOutcome shrs_sOutcome noSh_rOutcome mOutcome_wr mOutcome_n rTenant_len sTenant_len shr_rTenant shr_sTenant shrs_rTenant shrs_sTenant noSh_rTenant mTenant_wr mTenant_n uTenant_wr uTenant_n rLine_len sLine_len shr_rLine shr_sLine shrs_rLine shrs_sLine noSh_rLine mLine_wr mLine_n rStore_len sStore_len shr_rStore shr_sStore shrs_rStore shrs_sStore noSh_rStore mStore_wr mStore_n uStore_wr uStore_n noSh_sOutcome noSh_sSlot noSh_sErr noSh_tenant uGram_wr uGram_n mIS_n1 mIS_wr1 mISS_n1 mISS_wr1
-- 36 loop.example/g00485/laws.toConfS
def k_laws_toConfS : K :=
 .seq (
  .reg none [⟨(some 2), none, .asn (.c (.ar true 96 2 []))⟩]) (
 .seq (
  .reg none [⟨(some 5), none, .mv (.t 0)⟩,
    ⟨(some 6), none, .len (.t 5)⟩,
    ⟨(some 7), none, .mks 96 2 32 [(.int .i64 (0)), (.ar true 3 1 [])] (.t 6) (.t 6)⟩,
    ⟨(some 3), none, .asn (.t 7)⟩]) (
 .seq (
  .seq (
   .reg none [⟨(some 4), none, .asn (.c (.int .i64 (0)))⟩]) (
  .block 0 (
   .loop (some ([0, 3, 4], [0, 3, 4, 1000])) (
    .seq (
     .seq (
      .reg none [⟨(some 8), none, .mv (.t 4)⟩,
        ⟨(some 9), none, .mv (.t 0)⟩,
        ⟨(some 10), none, .len (.t 9)⟩,
        ⟨(some 11), none, .bin .lss (.t 8) (.t 10)⟩]) (
     .cond (.t 11) (
      .skip) (
      .exit 0))) (
    .seq (
     .block 1 (
      .reg none [⟨(some 14), none, .mv (.t 3)⟩,
        ⟨(some 15), none, .mv (.t 4)⟩,
        ⟨(some 16), none, .mv (.t 0)⟩,
        ⟨(some 17), none, .mv (.t 4)⟩,
        ⟨(some 18), none, .iad 2 (.t 16) (.t 17)⟩,
        ⟨(some 19), none, .ld 2 true (.t 18)⟩,
        ⟨(some 20), none, .call 74 [(.t 19)]⟩,
        ⟨(some 21), none, .iad 2 (.t 14) (.t 15)⟩,
        ⟨none, none, .st 2 false (.t 21) (.t 20)⟩])) (
    .reg none [⟨(some 12), none, .mv (.t 4)⟩,
      ⟨(some 13), none, .bin .add (.t 12) (.c (.int .i64 (1)))⟩,
      ⟨(some 4), none, .asn (.t 13)⟩])))))) (
 .seq (
  .reg none [⟨(some 22), none, .mv (.t 3)⟩,
    ⟨(some 2), none, .asn (.t 22)⟩]) (
 .ret))))
def r_laws_toConfS : Nat × List RV := (23, [.t 2])

theorem c_laws_toConfS : cmpS PT PF PA (Try.prog.funcs[36]?) = some (r_laws_toConfS.1, r_laws_toConfS.2, stripK k_laws_toConfS) := by kernel_rfl

theorem h_toConfS (xs : List TConf) (hx : wL wConf xs < 2 ^ 31) : CallsF Try.prog 36 [.one (.ar false 0 2 (xs.map sConf))] (.one (.ar true 96 2 (xs.map rConf))) := by
  refine Prun c_laws_toConfS (by simp [r_laws_toConfS]) (by simp) ?_
  unfold k_laws_toConfS r_laws_toConfS
  have hlen := wL_len wConf xs
  have hc : ((xs.length : Int) ≤ 4294967296) := by omega
  simp [hc]
  refine awp_loop (fun n σ => ∃ i : Nat, i ≤ xs.length ∧ n = xs.length - i ∧ σ = ⟨[(0, .one (.ar false 0 2 (xs.map sConf))), (3, .one (.vw 96 2 3 [] 0 xs.length)), (4, aI i)], [(3, ⟨96, 2, part rConf zConf xs i⟩)]⟩) (xs.length) ⟨0, by simp [part_zero, zConf]⟩ ?_
  rintro n σ ⟨i, hi, rfl, rfl⟩
  by_cases h : i < xs.length
  · have hw := wL_get wConf xs i h
    have := part_set (r := rConf) (z := zConf) h
    simp [h, sConf]
    refine callG_F (h_toConf xs[i] (by omega)) (by simp) ?_
    simp [h, part_get h, rConf, zConf]
    refine ⟨xs.length - (i + 1), by omega, i + 1, by omega, rfl, ?_⟩
    rw [wrapI (by omega) (by omega)]
    simp only [rConf, zConf] at this
    simp [rConf, zConf, this]
  · have : i = xs.length := by omega
    subst this
    simp [part_all]
end Go.Am
-- Conf_sz1
namespace Go.Am
open Go.Proofs
set_option maxHeartbeats 4000000
set_option maxRecDepth 100000
attribute [-simp] BitVec.toNat_or BitVec.toNat_and BitVec.toNat_ofInt
attribute [-simp] rIS_len sIS_len shr_rIS shr_sIS shrs_rIS shrs_sIS noSh_rIS rISS_len sISS_len shr_rISS shr_sISS shrs_rISS shrs_sISS noSh_rISS rGram_len sGram_len shr_rGram shr_sGram shrs_rGram shrs_sGram noSh_rGram mGram_wr mGram_n cS_t cS_f row20_len row20_sc row20_view row20_store row20_aff row20_ref row20_noSh row20_shr row20_lend row20_take row20_drop rB_len setR_noSh rErr_len sErr_len shr_rErr shr_sErr shrs_rErr shrs_sErr noSh_rErr mErr_wr mErr_n rSlot_len sSlot_len shr_rSlot shr_sSlot shrs_rSlot shrs_sSlot noSh_rSlot mSlot_wr mSlot_n rNode_len sNode_len shr_rNode shr_sNode shrs_rNode shrs_sNode noSh_rNode mNode_wr mNode_n rTree_len sTree_len shr_rTree shr_sTree shrs_rTree shrs_sTree noSh_rTree mTree_wr mTree_n rRun_len sRun_len shr_rRun shr_sRun shrs_rRun shrs_sRun noSh_rRun mRun_wr mRun_n rJob_len sJob_len shr_rJob shr_sJob shrs_rJob shrs_sJob noSh_rJob mJob_wr mJob_n rOutcome_len sOutcome_len shr_rOutcome shr_sOutcome shrs_rOutcome shrs_sOutcome noSh_rOutcome mOutcome_wr mOutcome_n rTenant_len sTenant_len shr_rTenant shr_sTenant shrs_rTenant shrs_sTenant noSh_rTenant mTenant_wr mTenant_n uTenant_wr uTenant_n rLine_len sLine_len shr_rLine shr_sLine shrs_rLine shrs_sLine noSh_rLine mLine_wr mLine_n rStore_len sStore_len shr_rStore shr_sStore shrs_rStore shrs_sStore noSh_rStore mStore_wr mStore_n uStore_wr uStore_n noSh_sOutcome noSh_sSlot noSh_sErr noSh_tenant uGram_wr uGram_n mIS_n1 mIS_wr1 mISS_n1 mISS_wr1
-- 73 loop.example/g00485/laws.szConf
def k_laws_szConf : K :=
 .seq (
  .reg none [⟨(some 2), none, .box 109 2 (.t 0)⟩,
    ⟨(some 4), none, .asn (.c (.int .i64 (0)))⟩]) (
 .seq (
  .reg none [⟨(some 5), none, .fad 1 (.t 2)⟩,
    ⟨(some 6), none, .ld 1 false (.t 5)⟩,
    ⟨(some 7), none, .mv (.t 1)⟩,
    ⟨(some 8), none, .call 127 [(.t 6), (.t 7)]⟩,
    ⟨(some 1), none, .asn (.t 8)⟩]) (
 .seq (
  .seq (
   .reg none [⟨(some 9), none, .mv (.t 1)⟩,
     ⟨(some 10), none, .bin .lss (.t 9) (.c (.int .i64 (0)))⟩]) (
  .cond (.t 10) (
   .seq (
    .reg none [⟨(some 4), none, .asn (.c (.int .i64 (-1)))⟩]) (
   .ret)) (
   .skip))) (
 .seq (
  .reg none [⟨(some 11), none, .mv (.t 1)⟩,
    ⟨(some 4), none, .asn (.t 11)⟩]) (
 .ret))))
def r_laws_szConf : Nat × List RV := (12, [.t 4])

theorem c_laws_szConf : cmpS PT PF PA (Try.prog.funcs[73]?) = some (r_laws_szConf.1, r_laws_szConf.2, stripK k_laws_szConf) := by kernel_rfl

theorem h_szConf (a : TConf) (left : Int) (h : lConf a) (h2 : 0 ≤ left) (h3 : left < 2 ^ 40) : CallsF Try.prog 73 [.agg (sConf a), aI left] (aI (lft left (wConf a))) := by
  refine Prun c_laws_szConf (by simp [r_laws_szConf]) (by simp) ?_
  unfold k_laws_szConf r_laws_szConf
  simp only [lConf] at h
  simp only [wConf]
  have hl0 := h
  simp [sConf]
  refine callG_F (h_szIntS a.row (left) hl0 (by omega) (by omega)) (by simp) ?_
  by_cases g0 : left < (wL w0 a.row : Int)
  case pos => simp only [lft_neg g0]; simp; try rw [lft_neg (by omega)]
  simp only [lft_pos (show (wL w0 a.row : Int) ≤ left by omega)]
  have n0 : ¬ left - (wL w0 a.row : Int) < 0 := by omega
  simp [n0]
  try rw [lft_pos (by omega)]
  try omega
end Go.Am
-- Conf_sz
namespace Go.Am
open Go.Proofs
set_option maxHeartbeats 4000000
set_option maxRecDepth 100000
attribute [-simp] BitVec.toNat_or BitVec.toNat_and BitVec.toNat_ofInt
attribute [-simp] rIS_len sIS_len shr_rIS shr_sIS shrs_rIS shrs_sIS noSh_rIS rISS_len sISS_len shr_rISS shr_sISS shrs_rISS shrs_sISS noSh_rISS rGram_len sGram_len shr_rGram shr_sGram shrs_rGram shrs_sGram noSh_rGram mGram_wr mGram_n cS_t cS_f row20_len row20_sc row20_view row20_store row20_aff row20_ref row20_noSh row20_shr row20_lend row20_take row20_drop rB_len setR_noSh rErr_len sErr_len shr_rErr shr_sErr shrs_rErr shrs_sErr noSh_rErr mErr_wr mErr_n rSlot_len sSlot_len shr_rSlot shr_sSlot shrs_rSlot shrs_sSlot noSh_rSlot mSlot_wr mSlot_n rNode_len sNode_len shr_rNode shr_sNode shrs_rNode shrs_sNode noSh_rNode mNode_wr mNode_n rTree_len sTree_len shr_rTree shr_sTree shrs_rTree shrs_sTree noSh_rTree mTree_wr mTree_n rRun_len sRun_len shr_rRun shr_sRun shrs_rRun shrs_sRun noSh_rRun mRun_wr mRun_n rJob_len sJob_len shr_rJob shr_sJob shrs_rJob shrs_sJob noSh_rJob mJob_wr mJob_n rOutcome_len sOutcome_len shr_rOutcome shr_sOutcome shrs_rOutcome shrs_sOutcome noSh_rOutcome mOutcome_wr mOutcome_n rTenant_len sTenant_len shr_rTenant shr_sTenant shrs_rTenant shrs_sTenant noSh_rTenant mTenant_wr mTenant_n uTenant_wr uTenant_n rLine_len sLine_len shr_rLine shr_sLine shrs_rLine shrs_sLine noSh_rLine mLine_wr mLine_n rStore_len sStore_len shr_rStore shr_sStore shrs_rStore shrs_sStore noSh_rStore mStore_wr mStore_n uStore_wr uStore_n noSh_sOutcome noSh_sSlot noSh_sErr noSh_tenant uGram_wr uGram_n mIS_n1 mIS_wr1 mISS_n1 mISS_wr1
-- 34 loop.example/g00485/laws.szConfS
def k_laws_szConfS : K :=
 .seq (
  .reg none [⟨(some 4), none, .asn (.c (.int .i64 (0)))⟩]) (
 .seq (
  .reg none [⟨(some 6), none, .mv (.t 1)⟩,
    ⟨(some 7), none, .mv (.t 0)⟩,
    ⟨(some 8), none, .len (.t 7)⟩,
    ⟨(some 9), none, .bin .sub (.t 6) (.t 8)⟩,
    ⟨(some 1), none, .asn (.t 9)⟩]) (
 .seq (
  .seq (
   .reg none [⟨(some 10), none, .mv (.t 1)⟩,
     ⟨(some 11), none, .bin .lss (.t 10) (.c (.int .i64 (0)))⟩]) (
  .cond (.t 11) (
   .seq (
    .reg none [⟨(some 4), none, .asn (.c (.int .i64 (-1)))⟩]) (
   .ret)) (
   .skip))) (
 .seq (
  .seq (
   .reg none [⟨(some 5), none, .asn (.c (.int .i64 (0)))⟩]) (
  .block 0 (
   .loop (some ([0, 1, 5], [0, 1, 5, 1000])) (
    .seq (
     .seq (
      .reg none [⟨(some 12), none, .mv (.t 5)⟩,
        ⟨(some 13), none, .mv (.t 0)⟩,
        ⟨(some 14), none, .len (.t 13)⟩,
        ⟨(some 15), none, .bin .lss (.t 12) (.t 14)⟩]) (
     .cond (.t 15) (
      .skip) (
      .exit 0))) (
    .seq (
     .block 1 (
      .seq (
       .reg none [⟨(some 18), none, .mv (.t 0)⟩,
         ⟨(some 19), none, .mv (.t 5)⟩,
         ⟨(some 20), none, .iad 2 (.t 18) (.t 19)⟩,
         ⟨(some 21), none, .ld 2 true (.t 20)⟩,
         ⟨(some 22), none, .mv (.t 1)⟩,
         ⟨(some 23), none, .call 73 [(.t 21), (.t 22)]⟩,
         ⟨(some 1), none, .asn (.t 23)⟩]) (
      .seq (
       .reg none [⟨(some 24), none, .mv (.t 1)⟩,
         ⟨(some 25), none, .bin .lss (.t 24) (.c (.int .i64 (0)))⟩]) (
      .cond (.t 25) (
       .seq (
        .reg none [⟨(some 4), none, .asn (.c (.int .i64 (-1)))⟩]) (
       .ret)) (
       .skip))))) (
    .reg none [⟨(some 16), none, .mv (.t 5)⟩,
      ⟨(some 17), none, .bin .add (.t 16) (.c (.int .i64 (1)))⟩,
      ⟨(some 5), none, .asn (.t 17)⟩])))))) (
 .seq (
  .reg none [⟨(some 26), none, .mv (.t 1)⟩,
    ⟨(some 4), none, .asn (.t 26)⟩]) (
 .ret)))))
def r_laws_szConfS : Nat × List RV := (27, [.t 4])

theorem c_laws_szConfS : cmpS PT PF PA (Try.prog.funcs[34]?) = some (r_laws_szConfS.1, r_laws_szConfS.2, stripK k_laws_szConfS) := by kernel_rfl

theorem h_szConfS (xs : List TConf) (left : Int) (hl : lL lConf xs) (h2 : 0 ≤ left) (h3 : left < 2 ^ 40) : CallsF Try.prog 34 [.one (.ar false 0 2 (xs.map sConf)), aI left] (aI (lft left (wL wConf xs))) := by
  refine Prun c_laws_szConfS (by simp [r_laws_szConfS]) (by simp) ?_
  unfold k_laws_szConfS r_laws_szConfS
  have hlen := hl.1
  have hlw := wL_len wConf xs
  have w1 : IntKind.i64.wrap (left - xs.length) = left - xs.length := wrapI (by omega) (by omega)
  by_cases h1 : left - (xs.length : Int) < 0
  · rw [lft_neg (by omega)]
    simp [w1, h1]
  simp [w1, h1]
  refine awp_loop (fun n σ => ∃ i : Nat, i ≤ xs.length ∧ n = xs.length - i ∧ (wL wConf (xs.take i) : Int) - i ≤ left - xs.length ∧ σ = ⟨[(0, .one (.ar false 0 2 (xs.map sConf))), (1, aI (left - xs.length - ((wL wConf (xs.take i) : Int) - i))), (5, aI i)], []⟩) (xs.length) ⟨0, by simp [wL]; omega⟩ ?_
  rintro n σ ⟨i, hi, rfl, hle, rfl⟩
  have hge := wL_len wConf (xs.take i)
  rw [List.length_take, Nat.min_eq_left hi] at hge
  by_cases h : i < xs.length
  · have hst := wL_take wConf h
    have hle2 := wL_take_le wConf xs (i + 1)
    have hlen2 := wL_len wConf (xs.drop (i + 1))
    have happ := wL_append wConf (xs.take (i + 1)) (xs.drop (i + 1))
    rw [List.take_append_drop] at happ
    rw [List.length_drop] at hlen2
    simp [h, sConf]
    refine callG_F (h_szConf xs[i] _ (hl.2 i h) (by omega) (by omega)) (by simp) ?_
    generalize hv : left - (xs.length : Int) - ((wL wConf (xs.take i) : Int) - i) = v at *
    by_cases h4 : v < (wConf xs[i] : Int)
    · simp only [lft_neg h4]
      rw [lft_neg (by omega)]
      simp
    · have e : lft v (wConf xs[i]) = v - wConf xs[i] := lft_pos (by omega)
      have n1 : ¬ v - (wConf xs[i] : Int) < 0 := by omega
      simp [e, n1]
      refine ⟨xs.length - (i + 1), by omega, i + 1, by omega, rfl, by omega, ?_⟩
      rw [wrapI (by omega) (by omega)]
      simp; omega
  · have : i = xs.length := by omega
    subst this
    rw [List.take_length] at hle
    rw [lft_pos (by omega)]
    simp
    omega
end Go.Am
-- L_SetMove
namespace Go.Am
open Go.Proofs
set_option maxHeartbeats 4000000
set_option maxRecDepth 100000
attribute [-simp] BitVec.toNat_or BitVec.toNat_and BitVec.toNat_ofInt
theorem moveG_w (g : TGram) (cs : List TConf) (x : Int) : wL wConf ((moveG g cs x).getD []) ≤ 10000 := by
  unfold moveG moveO
  split
  · split
    · exact closO_w
    · simp [wL]
  · simp [wL]
-- 6 loop.example/g00485/laws.FnExactSetMove
def k_laws_FnExactSetMove : K :=
 .seq (
  .reg none [⟨(some 3), none, .box 33 1 (.t 0)⟩,
    ⟨(some 6), none, .asn (.c (.bool false))⟩]) (
 .seq (
  .reg none [⟨(some 7), none, .asn (.c (.int .i64 (1048576)))⟩]) (
 .seq (
  .reg none [⟨(some 19), none, .ld 1 true (.t 3)⟩,
    ⟨(some 20), none, .mv (.t 7)⟩,
    ⟨(some 21), none, .call 15 [(.t 19), (.t 20)]⟩,
    ⟨(some 7), none, .asn (.t 21)⟩]) (
 .seq (
  .seq (
   .reg none [⟨(some 22), none, .mv (.t 7)⟩,
     ⟨(some 23), none, .bin .lss (.t 22) (.c (.int .i64 (0)))⟩]) (
  .cond (.t 23) (
   .seq (
    .reg none [⟨(some 6), none, .asn (.c (.bool true))⟩]) (
   .ret)) (
   .skip))) (
 .seq (
  .reg none [⟨(some 24), none, .mv (.t 1)⟩,
    ⟨(some 25), none, .mv (.t 7)⟩,
    ⟨(some 26), none, .call 34 [(.t 24), (.t 25)]⟩,
    ⟨(some 7), none, .asn (.t 26)⟩]) (
 .seq (
  .seq (
   .reg none [⟨(some 27), none, .mv (.t 7)⟩,
     ⟨(some 28), none, .bin .lss (.t 27) (.c (.int .i64 (0)))⟩]) (
  .cond (.t 28) (
   .seq (
    .reg none [⟨(some 6), none, .asn (.c (.bool true))⟩]) (
   .ret)) (
   .skip))) (
 .seq (
  .reg none [⟨(some 30), none, .ld 1 true (.t 3)⟩,
    ⟨(some 31), none, .call 17 [(.t 30)]⟩,
    ⟨(some 32), none, .mv (.t 1)⟩,
    ⟨(some 33), none, .call 36 [(.t 32)]⟩,
    ⟨(some 34), none, .mv (.t 2)⟩,
    ⟨(some 35), none, .callz 35 [31, 33] [(.t 31), (.t 33), (.t 34)]⟩,
    ⟨(some 29), none, .mv (.t 35)⟩,
    ⟨(some 36), none, .ext 0 (.t 29)⟩,
    ⟨(some 37), none, .ext 1 (.t 29)⟩,
    ⟨(some 8), none, .asn (.t 36)⟩,
    ⟨(some 9), none, .asn (.t 37)⟩]) (
 .seq (
  .reg none [⟨(some 38), none, .ld 1 true (.t 3)⟩,
    ⟨(some 39), none, .call 17 [(.t 38)]⟩,
    ⟨(some 10), none, .alc 39 1 [(.ar true 90 1 [])]⟩,
    ⟨none, none, .st 1 false (.t 10) (.t 39)⟩]) (
 .seq (
  .reg none [⟨(some 40), none, .mv (.t 1)⟩,
    ⟨(some 41), none, .call 36 [(.t 40)]⟩,
    ⟨(some 11), none, .asn (.t 41)⟩]) (
 .seq (
  .reg none [⟨(some 43), none, .ld 1 true (.t 10)⟩,
    ⟨(some 44), none, .mv (.t 11)⟩,
    ⟨(some 45), none, .mv (.t 2)⟩,
    ⟨(some 46), none, .call 37 [(.t 43), (.t 44), (.t 45)]⟩,
    ⟨(some 42), none, .mv (.t 46)⟩,
    ⟨(some 47), none, .ext 0 (.t 42)⟩,
    ⟨(some 48), none, .ext 1 (.t 42)⟩,
    ⟨(some 12), none, .asn (.t 47)⟩,
    ⟨(some 13), none, .asn (.t 48)⟩]) (
 .seq (
  .seq (
   .reg none [⟨(some 49), none, .mv (.t 12)⟩,
     ⟨(some 50), none, .mv (.t 8)⟩,
     ⟨(some 51), none, .call 20 [(.t 49), (.t 50)]⟩,
     ⟨(some 52), none, .not (.t 51)⟩,
     ⟨(some 53), none, .mv (.t 52)⟩,
     ⟨(some 54), (some (53, false)), .mv (.t 13)⟩,
     ⟨(some 55), (some (53, false)), .mv (.t 9)⟩,
     ⟨(some 56), (some (53, false)), .beq true (.t 54) (.t 55)⟩,
     ⟨(some 57), none, .pick (.t 53) (.c (.bool true)) (.t 56)⟩]) (
  .cond (.t 57) (
   .seq (
    .reg none [⟨(some 6), none, .asn (.c (.bool false))⟩]) (
   .ret)) (
   .skip))) (
 .seq (
  .seq (
   .grp none 3 [0, 1] [2] [⟨(some 58), none, .ld 1 true (.t 10)⟩,
     ⟨(some 59), none, .ld 1 true (.t 3)⟩,
     ⟨(some 60), none, .call 17 [(.t 59)]⟩,
     ⟨(some 61), none, .call 21 [(.t 58), (.t 60)]⟩,
     ⟨(some 62), none, .not (.t 61)⟩]) (
  .cond (.t 62) (
   .seq (
    .reg none [⟨(some 6), none, .asn (.c (.bool false))⟩]) (
   .ret)) (
   .skip))) (
 .seq (
  .seq (
   .reg none [⟨(some 63), none, .mv (.t 11)⟩,
     ⟨(some 64), none, .mv (.t 1)⟩,
     ⟨(some 65), none, .call 36 [(.t 64)]⟩,
     ⟨(some 66), none, .call 20 [(.t 63), (.t 65)]⟩,
     ⟨(some 67), none, .not (.t 66)⟩]) (
  .cond (.t 67) (
   .seq (
    .reg none [⟨(some 6), none, .asn (.c (.bool false))⟩]) (
   .ret)) (
   .skip))) (
 .seq (
  .reg none [⟨(some 14), none, .asn (.c (.int .i64 (1)))⟩]) (
 .seq (
  .reg none [⟨(some 68), none, .ld 1 true (.t 10)⟩,
    ⟨(some 69), none, .mv (.t 14)⟩,
    ⟨(some 70), none, .callr 23 (.t 68) [(.t 68), (.t 69)]⟩,
    ⟨(some 14), none, .asn (.t 70)⟩]) (
 .seq (
  .reg none [⟨(some 71), none, .mv (.t 11)⟩,
    ⟨(some 72), none, .mv (.t 14)⟩,
    ⟨(some 73), none, .callr 25 (.t 71) [(.t 71), (.t 72)]⟩,
    ⟨(some 14), none, .asn (.t 73)⟩]) (
 .seq (
  .seq (
   .reg none [⟨(some 74), none, .mv (.t 14)⟩,
     ⟨(some 75), none, .bin .lss (.t 74) (.c (.int .i64 (0)))⟩,
     ⟨(some 76), none, .mv (.t 75)⟩,
     ⟨(some 77), (some (76, false)), .mv (.t 12)⟩,
     ⟨(some 78), (some (76, false)), .mv (.t 8)⟩,
     ⟨(some 79), (some (76, false)), .call 20 [(.t 77), (.t 78)]⟩,
     ⟨(some 80), (some (76, false)), .not (.t 79)⟩,
     ⟨(some 81), none, .pick (.t 76) (.c (.bool true)) (.t 80)⟩,
     ⟨(some 82), none, .mv (.t 81)⟩,
     ⟨(some 83), (some (82, false)), .mv (.t 13)⟩,
     ⟨(some 84), (some (82, false)), .mv (.t 9)⟩,
     ⟨(some 85), (some (82, false)), .beq true (.t 83) (.t 84)⟩,
     ⟨(some 86), none, .pick (.t 82) (.c (.bool true)) (.t 85)⟩]) (
  .cond (.t 86) (
   .seq (
    .reg none [⟨(some 6), none, .asn (.c (.bool false))⟩]) (
   .ret)) (
   .skip))) (
 .seq (
  .reg none [⟨(some 15), none, .asn (.c (.int .i64 (1)))⟩]) (
 .seq (
  .reg none [⟨(some 87), none, .mv (.t 12)⟩,
    ⟨(some 88), none, .mv (.t 15)⟩,
    ⟨(some 89), none, .callr 25 (.t 87) [(.t 87), (.t 88)]⟩,
    ⟨(some 15), none, .asn (.t 89)⟩]) (
 .seq (
  .reg none [⟨(some 16), none, .asn (.c (.int .i64 (1)))⟩]) (
 .seq (
  .reg none [⟨(some 90), none, .mv (.t 12)⟩,
    ⟨(some 91), none, .mv (.t 16)⟩,
    ⟨(some 92), none, .call 26 [(.t 90), (.t 91)]⟩,
    ⟨(some 16), none, .asn (.t 92)⟩]) (
 .seq (
  .seq (
   .reg none [⟨(some 93), none, .mv (.t 16)⟩,
     ⟨(some 94), none, .bin .lss (.t 93) (.c (.int .i64 (0)))⟩]) (
  .cond (.t 94) (
   .seq (
    .reg none [⟨(some 6), none, .asn (.c (.bool false))⟩]) (
   .ret)) (
   .skip))) (
 .seq (
  .seq (
   .reg none [⟨(some 95), none, .mv (.t 16)⟩,
     ⟨(some 96), none, .mv (.t 15)⟩,
     ⟨(some 97), none, .bin .neq (.t 95) (.t 96)⟩]) (
  .cond (.t 97) (
   .seq (
    .reg none [⟨(some 6), none, .asn (.c (.bool false))⟩]) (
   .ret)) (
   .skip))) (
 .seq (
  .reg none [⟨(some 99), none, .ld 1 true (.t 3)⟩,
    ⟨(some 100), none, .call 17 [(.t 99)]⟩,
    ⟨(some 101), none, .mv (.t 1)⟩,
    ⟨(some 102), none, .call 36 [(.t 101)]⟩,
    ⟨(some 103), none, .mv (.t 2)⟩,
    ⟨(some 104), none, .call 37 [(.t 100), (.t 102), (.t 103)]⟩,
    ⟨(some 98), none, .mv (.t 104)⟩,
    ⟨(some 105), none, .ext 0 (.t 98)⟩,
    ⟨(some 106), none, .ext 1 (.t 98)⟩,
    ⟨(some 17), none, .asn (.t 105)⟩,
    ⟨(some 18), none, .asn (.t 106)⟩]) (
 .seq (
  .seq (
   .reg none [⟨(some 107), none, .mv (.t 17)⟩,
     ⟨(some 108), none, .mv (.t 8)⟩,
     ⟨(some 109), none, .call 20 [(.t 107), (.t 108)]⟩,
     ⟨(some 110), none, .not (.t 109)⟩,
     ⟨(some 111), none, .mv (.t 110)⟩,
     ⟨(some 112), (some (111, false)), .mv (.t 18)⟩,
     ⟨(some 113), (some (111, false)), .mv (.t 9)⟩,
     ⟨(some 114), (some (111, false)), .beq true (.t 112) (.t 113)⟩,
     ⟨(some 115), none, .pick (.t 111) (.c (.bool true)) (.t 114)⟩]) (
  .cond (.t 115) (
   .seq (
    .reg none [⟨(some 6), none, .asn (.c (.bool false))⟩]) (
   .ret)) (
   .skip))) (
 .seq (
  .reg none [⟨(some 16), none, .asn (.c (.int .i64 (1)))⟩]) (
 .seq (
  .reg none [⟨(some 116), none, .mv (.t 12)⟩,
    ⟨(some 117), none, .mv (.t 16)⟩,
    ⟨(some 118), none, .call 26 [(.t 116), (.t 117)]⟩,
    ⟨(some 16), none, .asn (.t 118)⟩]) (
 .seq (
  .seq (
   .reg none [⟨(some 119), none, .mv (.t 16)⟩,
     ⟨(some 120), none, .bin .lss (.t 119) (.c (.int .i64 (0)))⟩]) (
  .cond (.t 120) (
   .seq (
    .reg none [⟨(some 6), none, .asn (.c (.bool false))⟩]) (
   .ret)) (
   .skip))) (
 .seq (
  .seq (
   .reg none [⟨(some 121), none, .mv (.t 16)⟩,
     ⟨(some 122), none, .mv (.t 15)⟩,
     ⟨(some 123), none, .bin .neq (.t 121) (.t 122)⟩]) (
  .cond (.t 123) (
   .seq (
    .reg none [⟨(some 6), none, .asn (.c (.bool false))⟩]) (
   .ret)) (
   .skip))) (
 .seq (
  .reg none [⟨(some 6), none, .asn (.c (.bool true))⟩]) (
 .ret))))))))))))))))))))))))))))))
def r_laws_FnExactSetMove : Nat × List RV := (124, [.t 6])

theorem c_laws_FnExactSetMove : cmpS PT PF PA (Try.prog.funcs[6]?) = some (r_laws_FnExactSetMove.1, r_laws_FnExactSetMove.2, stripK k_laws_FnExactSetMove) := by kernel_rfl

set_option maxRecDepth 100000 in
theorem h_law_SetMove (g : TGram) (hlg : lGram g) (cs : List TConf) (hlc : lL lConf cs) (x : Int) : CallsF Try.prog 6 [.agg (sGram g), .one (.ar false 0 2 (cs.map sConf)), aI x] (aB true) := by
  refine Prun c_laws_FnExactSetMove (by simp [r_laws_FnExactSetMove]) (by simp) ?_
  unfold k_laws_FnExactSetMove r_laws_FnExactSetMove
  have hsz := h_szGram g 1048576 hlg (by omega) (by omega)
  obtain ⟨ps⟩ := g
  simp only [sGram] at hsz
  simp [sGram]
  refine callG_F hsz (by simp) ?_
  by_cases g1 : (1048576 : Int) < (wGram ⟨ps⟩ : Int)
  · simp [lft_neg g1]
  have e1 : lft 1048576 (wGram ⟨ps⟩) = 1048576 - wGram ⟨ps⟩ := lft_pos (by omega)
  have n1 : ¬ (1048576 : Int) - wGram ⟨ps⟩ < 0 := by omega
  simp [e1, n1]
  have hsc := h_szConfS cs (1048576 - wGram ⟨ps⟩) hlc (by omega) (by omega)
  refine callG_F hsc (by simp) ?_
  by_cases g2 : (1048576 : Int) - wGram ⟨ps⟩ < (wL wConf cs : Int)
  · simp [lft_neg g2]
  have e2 : lft (1048576 - wGram ⟨ps⟩) (wL wConf cs) = 1048576 - wGram ⟨ps⟩ - wL wConf cs := lft_pos (by omega)
  have n5 : ¬ (1048576 : Int) - wGram ⟨ps⟩ - wL wConf cs < 0 := by omega
  simp [e2, n5]
  have htg := h_toGram ⟨ps⟩ (by omega)
  have htc := h_toConfS cs (by omega)
  have hs := h_spec_SetMove ⟨ps⟩ cs x (by omega) hlg (by omega)
  have hi := h_impl_SetMove ⟨ps⟩ cs x (by omega) hlg hlc (by omega)
  have hSw := moveG_w ⟨ps⟩ cs x
  have hsB := fun b => setB_eq b (moveG ⟨ps⟩ cs x)
  rw [setR_eq] at hi
  generalize moveG ⟨ps⟩ cs x = o at *
  generalize o.isSome = fl at *
  generalize o.getD [] = L at *
  have heL := h_eqConfS L (by omega)
  have heg := h_eqGram ⟨ps⟩ (by omega)
  have hec := h_eqConfS cs (by omega)
  have hug := uGram_le ⟨ps⟩
  have hmg := h_markGram ⟨ps⟩ 1 (by omega) (by omega) (by omega)
  have hmc := h_markConfS 96 cs (1 + uGram.n ⟨ps⟩) (by omega) (by rw [mConf_nL']; omega) (by omega)
  have hmL := h_markConfS 96 L 1 (by omega) (by rw [mConf_nL']; omega) (by omega)
  have hhL := h_heldConfS L 1 (by omega) (by rw [mConf_nL']; omega) (by omega)
  simp only [sGram, rGram] at htg hs hi heg
  simp only [uGram_n] at hug hmg hmc
  generalize mI.L.L.nL ps = ng at *
  simp only [mConf_nL'] at hmc hmL hhL
  have n2 : ¬ (1 + (ng : Int) < 0) := by omega
  have n3 : ¬ (1 + (ng : Int) + wL wConf cs < 0) := by omega
  have n4 : ¬ (1 + (wL wConf L : Int) < 0) := by omega
  first | refine callG_F htg (by simp) ?_ | refine callOG_F htg (by simp) ?_ | refine gcal_F htg (by simp) ?_ | refine callRG_F htg rfl rfl (by simp) (by simp) ?_ | refine ⟨_, by simp, htg, ?_⟩
  try simp
  first | refine callG_F htc (by simp) ?_ | refine callOG_F htc (by simp) ?_ | refine gcal_F htc (by simp) ?_ | refine callRG_F htc rfl rfl (by simp) (by simp) ?_ | refine ⟨_, by simp, htc, ?_⟩
  try simp
  refine CallsA.mono hs ?_
  rintro r H ⟨rfl, b, rfl⟩
  obtain ⟨b', hb'⟩ := hsB b
  rw [hb']
  clear hsB hb' hs
  refine ⟨rfl, by simp, ?_⟩
  cases b'
  all_goals
    simp
    first | refine callG_F htg (by simp) ?_ | refine callOG_F htg (by simp) ?_ | refine gcal_F htg (by simp) ?_ | refine callRG_F htg rfl rfl (by simp) (by simp) ?_ | refine ⟨_, by simp, htg, ?_⟩
    try simp [n2, n3, n4]
    first | refine callG_F htc (by simp) ?_ | refine callOG_F htc (by simp) ?_ | refine gcal_F htc (by simp) ?_ | refine callRG_F htc rfl rfl (by simp) (by simp) ?_ | refine ⟨_, by simp, htc, ?_⟩
    try simp [n2, n3, n4]
    first | refine callG_F hi (by simp) ?_ | refine callOG_F hi (by simp) ?_ | refine gcal_F hi (by simp) ?_ | refine callRG_F hi rfl rfl (by simp) (by simp) ?_ | refine ⟨_, by simp, hi, ?_⟩
    try simp [n2, n3, n4]
    first | refine callG_F heL (by simp) ?_ | refine callOG_F heL (by simp) ?_ | refine gcal_F heL (by simp) ?_ | refine callRG_F heL rfl rfl (by simp) (by simp) ?_ | refine ⟨_, by simp, heL, ?_⟩
    try simp [n2, n3, n4]
    first | refine callG_F htg (by simp) ?_ | refine callOG_F htg (by simp) ?_ | refine gcal_F htg (by simp) ?_ | refine callRG_F htg rfl rfl (by simp) (by simp) ?_ | refine ⟨_, by simp, htg, ?_⟩
    try simp [n2, n3, n4]
    first | refine callG_F heg (by simp) ?_ | refine callOG_F heg (by simp) ?_ | refine gcal_F heg (by simp) ?_ | refine callRG_F heg rfl rfl (by simp) (by simp) ?_ | refine ⟨_, by simp, heg, ?_⟩
    try simp [n2, n3, n4]
    first | refine callG_F htc (by simp) ?_ | refine callOG_F htc (by simp) ?_ | refine gcal_F htc (by simp) ?_ | refine callRG_F htc rfl rfl (by simp) (by simp) ?_ | refine ⟨_, by simp, htc, ?_⟩
    try simp [n2, n3, n4]
    first | refine callG_F hec (by simp) ?_ | refine callOG_F hec (by simp) ?_ | refine gcal_F hec (by simp) ?_ | refine callRG_F hec rfl rfl (by simp) (by simp) ?_ | refine ⟨_, by simp, hec, ?_⟩
    try simp [n2, n3, n4]
    first | refine callG_F hmg (by simp) ?_ | refine callOG_F hmg (by simp) ?_ | refine gcal_F hmg (by simp) ?_ | refine callRG_F hmg rfl rfl (by simp) (by simp) ?_ | refine ⟨_, by simp, hmg, ?_⟩
    try simp [n2, n3, n4]
    first | refine callG_F hmc (by simp) ?_ | refine callOG_F hmc (by simp) ?_ | refine gcal_F hmc (by simp) ?_ | refine callRG_F hmc rfl rfl (by simp) (by simp) ?_ | refine ⟨_, by simp, hmc, ?_⟩
    try simp [n2, n3, n4]
    first | refine callG_F heL (by simp) ?_ | refine callOG_F heL (by simp) ?_ | refine gcal_F heL (by simp) ?_ | refine callRG_F heL rfl rfl (by simp) (by simp) ?_ | refine ⟨_, by simp, heL, ?_⟩
    try simp [n2, n3, n4]
    first | refine callG_F hmL (by simp) ?_ | refine callOG_F hmL (by simp) ?_ | refine gcal_F hmL (by simp) ?_ | refine callRG_F hmL rfl rfl (by simp) (by simp) ?_ | refine ⟨_, by simp, hmL, ?_⟩
    try simp [n2, n3, n4]
    first | refine callG_F hhL (by simp) ?_ | refine callOG_F hhL (by simp) ?_ | refine gcal_F hhL (by simp) ?_ | refine callRG_F hhL rfl rfl (by simp) (by simp) ?_ | refine ⟨_, by simp, hhL, ?_⟩
    try simp [n2, n3, n4]
    first | refine callG_F htg (by simp) ?_ | refine callOG_F htg (by simp) ?_ | refine gcal_F htg (by simp) ?_ | refine callRG_F htg rfl rfl (by simp) (by simp) ?_ | refine ⟨_, by simp, htg, ?_⟩
    try simp [n2, n3, n4]
    first | refine callG_F htc (by simp) ?_ | refine callOG_F htc (by simp) ?_ | refine gcal_F htc (by simp) ?_ | refine callRG_F htc rfl rfl (by simp) (by simp) ?_ | refine ⟨_, by simp, htc, ?_⟩
    try simp [n2, n3, n4]
    first | refine callG_F hi (by simp) ?_ | refine callOG_F hi (by simp) ?_ | refine gcal_F hi (by simp) ?_ | refine callRG_F hi rfl rfl (by simp) (by simp) ?_ | refine ⟨_, by simp, hi, ?_⟩
    try simp [n2, n3, n4]
    first | refine callG_F heL (by simp) ?_ | refine callOG_F heL (by simp) ?_ | refine gcal_F heL (by simp) ?_ | refine callRG_F heL rfl rfl (by simp) (by simp) ?_ | refine ⟨_, by simp, heL, ?_⟩
    try simp [n2, n3, n4]
    first | refine callG_F hhL (by simp) ?_ | refine callOG_F hhL (by simp) ?_ | refine gcal_F hhL (by simp) ?_ | refine callRG_F hhL rfl rfl (by simp) (by simp) ?_ | refine ⟨_, by simp, hhL, ?_⟩
    try simp [n2, n3, n4]
end Go.Am
-- Conf_sh
namespace Go.Am
open Go.Proofs
set_option maxHeartbeats 4000000
set_option maxRecDepth 100000
attribute [-simp] BitVec.toNat_or BitVec.toNat_and BitVec.toNat_ofInt
attribute [-simp] rIS_len sIS_len shr_rIS shr_sIS shrs_rIS shrs_sIS noSh_rIS rISS_len sISS_len shr_rISS shr_sISS shrs_rISS shrs_sISS noSh_rISS rGram_len sGram_len shr_rGram shr_sGram shrs_rGram shrs_sGram noSh_rGram mGram_wr mGram_n cS_t cS_f row20_len row20_sc row20_view row20_store row20_aff row20_ref row20_noSh row20_shr row20_lend row20_take row20_drop rB_len setR_noSh rErr_len sErr_len shr_rErr shr_sErr shrs_rErr shrs_sErr noSh_rErr mErr_wr mErr_n rSlot_len sSlot_len shr_rSlot shr_sSlot shrs_rSlot shrs_sSlot noSh_rSlot mSlot_wr mSlot_n rNode_len sNode_len shr_rNode shr_sNode shrs_rNode shrs_sNode noSh_rNode mNode_wr mNode_n rTree_len sTree_len shr_rTree shr_sTree shrs_rTree shrs_sTree noSh_rTree mTree_wr mTree_n rRun_len sRun_len shr_rRun shr_sRun shrs_rRun shrs_sRun noSh_rRun mRun_wr mRun_n rJob_len sJob_len shr_rJob shr_sJob shrs_rJob shrs_sJob noSh_rJob mJob_wr mJob_n rOutcome_len sOutcome_len shr_rOutcome shr_sOutcome shrs_rOutcome shrs_sOutcome noSh_rOutcome mOutcome_wr mOutcome_n rTenant_len sTenant_len shr_rTenant shr_sTenant shrs_rTenant shrs_sTenant noSh_rTenant mTenant_wr mTenant_n uTenant_wr uTenant_n rLine_len sLine_len shr_rLine shr_sLine shrs_rLine shrs_sLine noSh_rLine mLine_wr mLine_n rStore_len sStore_len shr_rStore shr_sStore shrs_rStore shrs_sStore noSh_rStore mStore_wr mStore_n uStore_wr uStore_n noSh_sOutcome noSh_sSlot noSh_sErr noSh_tenant uGram_wr uGram_n mIS_n1 mIS_wr1 mISS_n1 mISS_wr1
def shConf : List Sh := [.i, .l 1 [.i]]
theorem of_Conf (x : List C) (h : inShs shConf x) : ∃ a : TConf, x = sConf a ∧ lConf a := by
  simp only [shConf, inShs] at h
  obtain ⟨c0, r0, rfl, h0, c1, r1, rfl, h1, rfl⟩ := h
  simp only [inSh] at h0
  obtain ⟨n0, rfl, v0⟩ := h0
  obtain ⟨n1, rfl, g1⟩ := of_sl of_int c1 h1
  refine ⟨⟨n0, n1⟩, rfl, ?_⟩
  simp only [lConf]
  exact g1
end Go.Am
-- Gram_sh
namespace Go.Am
open Go.Proofs
set_option maxHeartbeats 4000000
set_option maxRecDepth 100000
attribute [-simp] BitVec.toNat_or BitVec.toNat_and BitVec.toNat_ofInt
attribute [-simp] rConf_len sConf_len shr_rConf shr_sConf shrs_rConf shrs_sConf noSh_rConf mConf_wr mConf_n cS_t cS_f row20_len row20_sc row20_view row20_store row20_aff row20_ref row20_noSh row20_shr row20_lend row20_take row20_drop rB_len setR_noSh rErr_len sErr_len shr_rErr shr_sErr shrs_rErr shrs_sErr noSh_rErr mErr_wr mErr_n rSlot_len sSlot_len shr_rSlot shr_sSlot shrs_rSlot shrs_sSlot noSh_rSlot mSlot_wr mSlot_n rNode_len sNode_len shr_rNode shr_sNode shrs_rNode shrs_sNode noSh_rNode mNode_wr mNode_n rTree_len sTree_len shr_rTree shr_sTree shrs_rTree shrs_sTree noSh_rTree mTree_wr mTree_n rRun_len sRun_len shr_rRun shr_sRun shrs_rRun shrs_sRun noSh_rRun mRun_wr mRun_n rJob_len sJob_len shr_rJob shr_sJob shrs_rJob shrs_sJob noSh_rJob mJob_wr mJob_n rOutcome_len sOutcome_len shr_rOutcome shr_sOutcome shrs_rOutcome shrs_sOutcome noSh_rOutcome mOutcome_wr mOutcome_n rTenant_len sTenant_len shr_rTenant shr_sTenant shrs_rTenant shrs_sTenant noSh_rTenant mTenant_wr mTenant_n uTenant_wr uTenant_n rLine_len sLine_len shr_rLine shr_sLine shrs_rLine shrs_sLine noSh_rLine mLine_wr mLine_n rStore_len sStore_len shr_rStore shr_sStore shrs_rStore shrs_sStore noSh_rStore mStore_wr mStore_n uStore_wr uStore_n noSh_sOutcome noSh_sSlot noSh_sErr noSh_tenant uGram_wr uGram_n mIS_n1 mIS_wr1 mISS_n1 mISS_wr1
def shGram : List Sh := [.l 1 [.l 1 [.l 1 [.i]]]]
theorem of_Gram (x : List C) (h : inShs shGram x) : ∃ a : TGram, x = sGram a ∧ lGram a := by
  simp only [shGram, inShs] at h
  obtain ⟨c0, r0, rfl, h0, rfl⟩ := h
  obtain ⟨n0, rfl, g0⟩ := of_sl of_ISS c0 h0
  refine ⟨⟨n0⟩, rfl, ?_⟩
  simp only [lGram]
  exact g0
end Go.Am
-- B_FnExactSetMove
namespace Go.Am
open Go.Proofs
set_option maxHeartbeats 4000000
set_option maxRecDepth 100000
attribute [-simp] BitVec.toNat_or BitVec.toNat_and BitVec.toNat_ofInt
open Go.ChangeShapes Go.WideShapes Go.ChangeAt Go.RowKit Go.Proofs.Ytfcbminodkjklaa
theorem own_FnExactSetMove : ownKnob Try.prog.godebug = none := by kernel_rfl
theorem laidOut_FnExactSetMove : laidOutB Try.prog = true := by kernel_rfl
set_option maxRecDepth 100000 in
theorem lifted_FnExactSetMove (os : Os) (started : os.Started) (H : Type) (enc : TypeId × Value → H) :
    ReturnsInHanded {} Try.checked os 6 .any (Rows.fnExactSetMoveSpec.pre6 enc Try.prog Try.f6 Rows.fnExactSetMoveRow.domain false) (Rows.fnExactSetMoveSpec.post enc Try.prog Try.f6 false true false false) := by
  refine returnsInHanded_of_change (C := Try.checked) own_FnExactSetMove started (by kernel_rfl) Try.func6
    (ChangeSpec.witness6 (enc := enc) (C := Try.checked) false ⟨#[], #[.agg #[.slice none 0 0], .slice none 0 0, .int .i64 0], []⟩ 8 (by kernel_rfl) (by kernel_rfl) (by kernel_rfl) (by kernel_rfl)) ?_
  intro W base args ds gs before hval0 hW hcnd _
  have hval : ∀ (j : Nat) t v, Try.f6.params[j]? = some t → args[j]? = some v → Value.okWide Try.prog W .any base t v := hval0
  have hW' := hW
  obtain ⟨p, q, hA0, hV, rfl, hfz, hnd⟩ := hW
  have hA : DataW.TrodAll enc Try.prog W 0 (fun _ => true) true Try.f6.params.toList args.toList ds p := hA0
  rw [Try.params6] at hA hval
  obtain ⟨v0, v1, v2, d0, d1, d2, p0, p1, p2, rfl, rfl, rfl, h0, h1, h2⟩ := trodAll_three hA
  obtain ⟨rfl, rfl⟩ := trodVars_none hV
  have hV0 : ∀ (W' : World) (sp : Nat → Bool), DataW.TrodVars enc Try.checked.prog W' sp Rows.fnExactSetMoveSpec.vars ([] : List (DataW H)) [] := fun _ _ => by first | rfl | trivial | exact ⟨rfl, rfl⟩ | exact ⟨_, rfl, rfl⟩
  have hk0 := h0
  have hs0 : shT Try.prog 12 33 = some shGram := by kernel_rfl
  obtain ⟨row0, hc0, hr0⟩ := arg_st (lc := fun _ => none) Try.underlying33 hs0 (hval 0 33 v0 rfl rfl) h0
  obtain ⟨x0, rfl, hl0⟩ := of_Gram row0 hc0
  have hk1 := h1
  have hs1 : shT Try.prog 12 60 = some [.l 2 shConf] := by kernel_rfl
  obtain ⟨c1, hc1, hr1⟩ := arg_sl (lc := fun _ => none) Try.underlying60 hs1 (hval 1 60 v1 rfl rfl) h1
  obtain ⟨x1, rfl, hl1⟩ := of_sl of_Conf c1 hc1
  obtain ⟨a2, rfl, rfl, rfl, wa2⟩ := open_int Try.underlying3 (hval 2 3 v2 rfl rfl) h2
  clear hA0 hval0
  simp only [List.append_nil] at hW'
  refine (below_of (h_law_SetMove x0 hl0 x1 hl1 a2) (fun _ _ _ _ h => h.1) W [v0, v1, .int .i64 a2] (by simp [sGram, aI, aS, A.ref, C.ref, refCs]) ⟨_, _, fz, fz, rfl, (add_fz _).symm, hr0, ⟨_, _, fz, fz, rfl, (add_fz _).symm, hr1, ⟨_, _, fz, fz, rfl, (add_fz _).symm, ⟨rfl, rfl⟩, ⟨rfl, rfl⟩⟩⟩⟩ rfl).mono fun e W' ⟨he, hw⟩ => ?_
  subst he
  exact ⟨_, rfl, [d0, d1, .lit (.int .i64 a2)], [], _, [], _, [], by simpa using hW', trodAll_mk1 (shut_bool Try.underlying4 true), trodAll_mk3 (Below.trod laidOut_FnExactSetMove (by kernel_rfl) (of_decide_eq_true (by kernel_rfl)) hk0 hw (fun x hx => by have := hW'.lt x (by simp [hx]); simpa using this)) (Below.trod laidOut_FnExactSetMove (by kernel_rfl) (of_decide_eq_true (by kernel_rfl)) hk1 hw (fun x hx => by have := hW'.lt x (by simp [hx]); simpa using this)) (shut_int Try.underlying3 wa2), hV0 _ _, hw.frame _, fun h => by cases h⟩
theorem holds_FnExactSetMove : Rows.FnExactSetMoveSaid :=
  OpenClaim.holds_of_wide 6 Try.f6 rfl rfl rfl rfl rfl rfl rfl ⟨rfl, rfl, rfl, rfl, rfl⟩ rfl rfl rfl rfl rfl (by kernel_rfl) Try.func6 (by kernel_rfl)
    (of_decide_eq_true (by kernel_rfl)) (by unfold Func.isWrapper; first | (rw [if_pos (by decide +kernel)]; kernel_rfl) | (rw [if_neg (by decide +kernel)]; exact ⟨rfl, rfl⟩))
    (fun os started H enc _ => lifted_FnExactSetMove os started H enc)
#print axioms holds_FnExactSetMove
end Go.Am
namespace Go.Proofs.Ytfcbminodkjklaa
theorem fnExactSetMove_holds : Rows.FnExactSetMoveSaid := Go.Am.holds_FnExactSetMove
end Go.Proofs.Ytfcbminodkjklaa
