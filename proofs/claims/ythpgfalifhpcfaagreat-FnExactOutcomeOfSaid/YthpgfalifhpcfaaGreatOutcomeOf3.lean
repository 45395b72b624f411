/- PROVED: the outcome of a ticket: the same of the program and the reference -/
import Derived.Test.YthpgfalifhpcfaaGreatOutcomeOf2
import Derived.Test.YthpgfalifhpcfaaGreatRows
import Derived.ProofKit
set_option linter.unusedVariables false
set_option linter.unusedSimpArgs false
namespace Go.Am
open Go.Proofs
set_option maxHeartbeats 4000000
set_option maxRecDepth 100000
attribute [-simp] BitVec.toNat_or BitVec.toNat_and BitVec.toNat_ofInt
section
def k_320 : K := dc 0x411a05a040081005441442e50004405003043104079041040642640e583446010020400570575950afb055810155011425134851d31404800070400450001833c23ce30d10e34334000c1401010000371410041410031c01450390410400031040790410402c22c0e4a3442810020400012412481811081c31c0006040141004039041040
def r_320 : Nat × List RV := (27, [.t 4])
theorem c_320 : codeIs PA 320 r_320 k_320 := by unfold codeIs; kernel_rfl
theorem h_szNodeS (xs : List TNode) (left : Int) (hl : lL lNode xs) (h2 : 0 ≤ left) (h3 : left < 2 ^ 40) : CallsF Tryz.prog 320 [.one (.ar false 0 5 (xs.map sNode)), aI left] (aI (lft left (wL wNode xs))) := by
  refine Prun c_320 (by simp [r_320]) (by simp) ?_
  (conv in k_320 => reduce); unfold r_320
  have hlen := hl.1
  have hlw := wL_len wNode xs
  have w1 : IntKind.i64.wrap (left - xs.length) = left - xs.length := wrapI (by omega) (by omega)
  by_cases h1 : left - (xs.length : Int) < 0
  · rw [lft_neg (by omega)]
    simp [w1, h1]
  simp [w1, h1]
  refine awp_loop (fun n σ => ∃ i : Nat, i ≤ xs.length ∧ n = xs.length - i ∧ (wL wNode (xs.take i) : Int) - i ≤ left - xs.length ∧ σ = ⟨[(0, .one (.ar false 0 5 (xs.map sNode))), (1, aI (left - xs.length - ((wL wNode (xs.take i) : Int) - i))), (5, aI i)], []⟩) (xs.length) ⟨0, by simp [wL]; omega⟩ ?_
  rintro n σ ⟨i, hi, rfl, hle, rfl⟩
  have hge := wL_len wNode (xs.take i)
  rw [List.length_take, Nat.min_eq_left hi] at hge
  by_cases h : i < xs.length
  · have hst := wL_take wNode h
    have hle2 := wL_take_le wNode xs (i + 1)
    have hlen2 := wL_len wNode (xs.drop (i + 1))
    have happ := wL_append wNode (xs.take (i + 1)) (xs.drop (i + 1))
    rw [List.take_append_drop] at happ
    rw [List.length_drop] at hlen2
    simp [h, sNode]
    refine callG_F (h_szNode xs[i] _ (hl.2 i h) (by omega) (by omega)) (by simp) ?_
    generalize hv : left - (xs.length : Int) - ((wL wNode (xs.take i) : Int) - i) = v at *
    by_cases h4 : v < (wNode xs[i] : Int)
    · simp only [lft_neg h4]
      rw [lft_neg (by omega)]
      simp
    · have e : lft v (wNode xs[i]) = v - wNode xs[i] := lft_pos (by omega)
      have n1 : ¬ v - (wNode xs[i] : Int) < 0 := by omega
      simp [e, n1]
      refine ⟨xs.length - (i + 1), by omega, i + 1, by omega, rfl, by omega, ?_⟩
      rw [wrapI (by omega) (by omega)]
      simp; omega
  · have : i = xs.length := by omega
    subst this
    rw [List.take_length] at hle
    rw [lft_pos (by omega)]
    simp
    omega
end
section
def k_286 : K := dc 0x1042c12c10020400c4101e4104100a08a03924d1090400810000480481c6098b051c100614004214200614100403904200106b202040
def r_286 : Nat × List RV := (12, [.t 4])
theorem c_286 : codeIs PA 286 r_286 k_286 := by unfold codeIs; kernel_rfl
theorem h_szTree (a : TTree) (left : Int) (h : lTree a) (h2 : 0 ≤ left) (h3 : left < 2 ^ 40) : CallsF Tryz.prog 286 [.agg (sTree a), aI left] (aI (lft left (wTree a))) := by
  refine Prun c_286 (by simp [r_286]) (by simp) ?_
  (conv in k_286 => reduce); unfold r_286
  simp only [lTree] at h
  simp only [wTree]
  have hl0 := h
  simp [sTree]
  refine callG_F (h_szNodeS a.nodes (left) hl0 (by omega) (by omega)) (by simp) ?_
  by_cases g0 : left < (wL wNode a.nodes : Int)
  case pos => simp only [lft_neg g0]; simp; try rw [lft_neg (by omega)]
  simp only [lft_pos (show (wL wNode a.nodes : Int) ≤ left by omega)]
  have n0 : ¬ left - (wL wNode a.nodes : Int) < 0 := by omega
  simp [n0]
  try rw [lft_pos (by omega)]
  try omega
end
section
def k_241 : K := dc 0x1045c15c10020400c4101e4104101609603954d1150400810000540544d20b7ac54c1012440042442186141003104079041040402400e4f3443c100204000138138d302dab14d04030b04108b0851850400c4101e4104100a08a03924d1090400810000480481c60b5ac51c100614004214210614100403904200712b202040
def r_241 : Nat × List RV := (24, [.t 4])
theorem c_241 : codeIs PA 241 r_241 k_241 := by unfold codeIs; kernel_rfl
theorem h_szRun (a : TRun) (left : Int) (h : lRun a) (h2 : 0 ≤ left) (h3 : left < 2 ^ 40) : CallsF Tryz.prog 241 [.agg (sRun a), aI left] (aI (lft left (wRun a))) := by
  refine Prun c_241 (by simp [r_241]) (by simp) ?_
  (conv in k_241 => reduce); unfold r_241
  simp only [lRun] at h
  simp only [wRun]
  obtain ⟨hl0, hl1, hl2⟩ := h
  simp [sRun]
  refine callG_F (h_szSlotS a.slots (left) hl0 (by omega) (by omega)) (by simp) ?_
  by_cases g0 : left < (wL wSlot a.slots : Int)
  case pos => simp only [lft_neg g0]; simp; try rw [lft_neg (by omega)]
  simp only [lft_pos (show (wL wSlot a.slots : Int) ≤ left by omega)]
  have n0 : ¬ left - (wL wSlot a.slots : Int) < 0 := by omega
  simp [n0]
  refine callG_F (h_szTree a.tree (left - (wL wSlot a.slots : Int)) hl1 (by omega) (by omega)) (by simp) ?_
  by_cases g1 : left - (wL wSlot a.slots : Int) < (wTree a.tree : Int)
  case pos => simp only [lft_neg g1]; simp; try rw [lft_neg (by omega)]
  simp only [lft_pos (show (wTree a.tree : Int) ≤ left - (wL wSlot a.slots : Int) by omega)]
  have n1 : ¬ left - (wL wSlot a.slots : Int) - (wTree a.tree : Int) < 0 := by omega
  simp [n1]
  refine callG_F (h_szErrS a.errs (left - (wL wSlot a.slots : Int) - (wTree a.tree : Int)) hl2 (by omega) (by omega)) (by simp) ?_
  by_cases g2 : left - (wL wSlot a.slots : Int) - (wTree a.tree : Int) < (wL wErr a.errs : Int)
  case pos => simp only [lft_neg g2]; simp; try rw [lft_neg (by omega)]
  simp only [lft_pos (show (wL wErr a.errs : Int) ≤ left - (wL wSlot a.slots : Int) - (wTree a.tree : Int) by omega)]
  have n2 : ¬ left - (wL wSlot a.slots : Int) - (wTree a.tree : Int) - (wL wErr a.errs : Int) < 0 := by omega
  simp [n2]
  try rw [lft_pos (by omega)]
  try omega
end
section
def k_193 : K := dc 0x4111051040081003104079041040402400e4f3443c100204000138138d30226b14d04030b04708b0831850400c4101e4104100a08a03924d1090400810000480481c6087ac51c100614004214208614100403904200a1ab202040
def r_193 : Nat × List RV := (18, [.t 4])
theorem c_193 : codeIs PA 193 r_193 k_193 := by unfold codeIs; kernel_rfl
theorem h_szJob (a : TJob) (left : Int) (h : lJob a) (h2 : 0 ≤ left) (h3 : left < 2 ^ 40) : CallsF Tryz.prog 193 [.agg (sJob a), aI left] (aI (lft left (wJob a))) := by
  refine Prun c_193 (by simp [r_193]) (by simp) ?_
  (conv in k_193 => reduce); unfold r_193
  simp only [lJob] at h
  simp only [wJob]
  obtain ⟨hl0, hl1⟩ := h
  simp [sJob]
  refine callG_F (h_szIntS a.input (left) hl0 (by omega) (by omega)) (by simp) ?_
  by_cases g0 : left < (wL w0 a.input : Int)
  case pos => simp only [lft_neg g0]; simp; try rw [lft_neg (by omega)]
  simp only [lft_pos (show (wL w0 a.input : Int) ≤ left by omega)]
  have n0 : ¬ left - (wL w0 a.input : Int) < 0 := by omega
  simp [n0]
  refine callG_F (h_szRun a.run (left - (wL w0 a.input : Int)) hl1 (by omega) (by omega)) (by simp) ?_
  by_cases g1 : left - (wL w0 a.input : Int) < (wRun a.run : Int)
  case pos => simp only [lft_neg g1]; simp; try rw [lft_neg (by omega)]
  simp only [lft_pos (show (wRun a.run : Int) ≤ left - (wL w0 a.input : Int) by omega)]
  have n1 : ¬ left - (wL w0 a.input : Int) - (wRun a.run : Int) < 0 := by omega
  simp [n1]
  try rw [lft_pos (by omega)]
  try omega
end
section
def k_132 : K := dc 0x411a05a040081005441442e50004405003043104079041040642640e58344601002040057057595099a8558101550128251348a1d31404800070400450001833c23ce30d10e34334000c1401010000371410041410031c01450390410400031040790410402c22c0e4a3442810020400012412481811081c31c0006040141004039041040
def r_132 : Nat × List RV := (27, [.t 4])
theorem c_132 : codeIs PA 132 r_132 k_132 := by unfold codeIs; kernel_rfl
theorem h_szJobS (xs : List TJob) (left : Int) (hl : lL lJob xs) (h2 : 0 ≤ left) (h3 : left < 2 ^ 40) : CallsF Tryz.prog 132 [.one (.ar false 0 10 (xs.map sJob)), aI left] (aI (lft left (wL wJob xs))) := by
  refine Prun c_132 (by simp [r_132]) (by simp) ?_
  (conv in k_132 => reduce); unfold r_132
  have hlen := hl.1
  have hlw := wL_len wJob xs
  have w1 : IntKind.i64.wrap (left - xs.length) = left - xs.length := wrapI (by omega) (by omega)
  by_cases h1 : left - (xs.length : Int) < 0
  · rw [lft_neg (by omega)]
    simp [w1, h1]
  simp [w1, h1]
  refine awp_loop (fun n σ => ∃ i : Nat, i ≤ xs.length ∧ n = xs.length - i ∧ (wL wJob (xs.take i) : Int) - i ≤ left - xs.length ∧ σ = ⟨[(0, .one (.ar false 0 10 (xs.map sJob))), (1, aI (left - xs.length - ((wL wJob (xs.take i) : Int) - i))), (5, aI i)], []⟩) (xs.length) ⟨0, by simp [wL]; omega⟩ ?_
  rintro n σ ⟨i, hi, rfl, hle, rfl⟩
  have hge := wL_len wJob (xs.take i)
  rw [List.length_take, Nat.min_eq_left hi] at hge
  by_cases h : i < xs.length
  · have hst := wL_take wJob h
    have hle2 := wL_take_le wJob xs (i + 1)
    have hlen2 := wL_len wJob (xs.drop (i + 1))
    have happ := wL_append wJob (xs.take (i + 1)) (xs.drop (i + 1))
    rw [List.take_append_drop] at happ
    rw [List.length_drop] at hlen2
    simp [h, sJob]
    refine callG_F (h_szJob xs[i] _ (hl.2 i h) (by omega) (by omega)) (by simp) ?_
    generalize hv : left - (xs.length : Int) - ((wL wJob (xs.take i) : Int) - i) = v at *
    by_cases h4 : v < (wJob xs[i] : Int)
    · simp only [lft_neg h4]
      rw [lft_neg (by omega)]
      simp
    · have e : lft v (wJob xs[i]) = v - wJob xs[i] := lft_pos (by omega)
      have n1 : ¬ v - (wJob xs[i] : Int) < 0 := by omega
      simp [e, n1]
      refine ⟨xs.length - (i + 1), by omega, i + 1, by omega, rfl, by omega, ?_⟩
      rw [wrapI (by omega) (by omega)]
      simp; omega
  · have : i = xs.length := by omega
    subst this
    rw [List.take_length] at hle
    rw [lft_pos (by omega)]
    simp
    omega
end
section
def k_194 : K := dc 0x410c04c0400810031040790410402c22c0e4a3442810020400012412481411081de1c600108608218504018100403904200322b202040
def r_194 : Nat × List RV := (13, [.t 4])
theorem c_194 : codeIs PA 194 r_194 k_194 := by unfold codeIs; kernel_rfl
theorem h_szOutcome (a : TOutcome) (left : Int) (h : lOutcome a) (h2 : 0 ≤ left) (h3 : left < 2 ^ 40) : CallsF Tryz.prog 194 [.agg (sOutcome a), aI left] (aI (lft left (wOutcome a))) := by
  refine Prun c_194 (by simp [r_194]) (by simp) ?_
  (conv in k_194 => reduce); unfold r_194
  simp only [lOutcome] at h
  simp only [wOutcome]
  have hl0 := h
  simp [sOutcome]
  have ww0 : IntKind.i64.wrap (left - (a.text.size : Int)) = left - a.text.size := wrapI (by omega) (by omega)
  by_cases n0 : left - (a.text.size : Int) < 0
  case pos => simp [ww0, n0]; try rw [lft_neg (by omega)]
  simp [ww0, n0]
  try rw [lft_pos (by omega)]
  try omega
end
section
def k_133 : K := dc 0x411a05a040081005441442e50004405003043104079041040642640e5834460100204005705759509aa855810155010c25134831d31404800070400450001833c23ce30d10e34334000c1401010000371410041410031c01450390410400031040790410402c22c0e4a3442810020400012412481811081c31c0006040141004039041040
def r_133 : Nat × List RV := (27, [.t 4])
theorem c_133 : codeIs PA 133 r_133 k_133 := by unfold codeIs; kernel_rfl
theorem h_szOutcomeS (xs : List TOutcome) (left : Int) (hl : lL lOutcome xs) (h2 : 0 ≤ left) (h3 : left < 2 ^ 40) : CallsF Tryz.prog 133 [.one (.ar false 0 3 (xs.map sOutcome)), aI left] (aI (lft left (wL wOutcome xs))) := by
  refine Prun c_133 (by simp [r_133]) (by simp) ?_
  (conv in k_133 => reduce); unfold r_133
  have hlen := hl.1
  have hlw := wL_len wOutcome xs
  have w1 : IntKind.i64.wrap (left - xs.length) = left - xs.length := wrapI (by omega) (by omega)
  by_cases h1 : left - (xs.length : Int) < 0
  · rw [lft_neg (by omega)]
    simp [w1, h1]
  simp [w1, h1]
  refine awp_loop (fun n σ => ∃ i : Nat, i ≤ xs.length ∧ n = xs.length - i ∧ (wL wOutcome (xs.take i) : Int) - i ≤ left - xs.length ∧ σ = ⟨[(0, .one (.ar false 0 3 (xs.map sOutcome))), (1, aI (left - xs.length - ((wL wOutcome (xs.take i) : Int) - i))), (5, aI i)], []⟩) (xs.length) ⟨0, by simp [wL]; omega⟩ ?_
  rintro n σ ⟨i, hi, rfl, hle, rfl⟩
  have hge := wL_len wOutcome (xs.take i)
  rw [List.length_take, Nat.min_eq_left hi] at hge
  by_cases h : i < xs.length
  · have hst := wL_take wOutcome h
    have hle2 := wL_take_le wOutcome xs (i + 1)
    have hlen2 := wL_len wOutcome (xs.drop (i + 1))
    have happ := wL_append wOutcome (xs.take (i + 1)) (xs.drop (i + 1))
    rw [List.take_append_drop] at happ
    rw [List.length_drop] at hlen2
    simp [h, sOutcome]
    refine callG_F (h_szOutcome xs[i] _ (hl.2 i h) (by omega) (by omega)) (by simp) ?_
    generalize hv : left - (xs.length : Int) - ((wL wOutcome (xs.take i) : Int) - i) = v at *
    by_cases h4 : v < (wOutcome xs[i] : Int)
    · simp only [lft_neg h4]
      rw [lft_neg (by omega)]
      simp
    · have e : lft v (wOutcome xs[i]) = v - wOutcome xs[i] := lft_pos (by omega)
      have n1 : ¬ v - (wOutcome xs[i] : Int) < 0 := by omega
      simp [e, n1]
      refine ⟨xs.length - (i + 1), by omega, i + 1, by omega, rfl, by omega, ?_⟩
      rw [wrapI (by omega) (by omega)]
      simp; omega
  · have : i = xs.length := by omega
    subst this
    rw [List.take_length] at hle
    rw [lft_pos (by omega)]
    simp
    omega
end
section
def k_89 : K := dc 0x4111051040081003104079041040402400e4f3443c100204000138138d30276914d04030b00108b0891850400c4101e4104100a08a03924d1090400810000480481c609ca451c100614004214220614100403904200a769202040
def r_89 : Nat × List RV := (18, [.t 4])
theorem c_89 : codeIs PA 89 r_89 k_89 := by unfold codeIs; kernel_rfl
theorem h_szTenant (a : TTenant) (left : Int) (h : lTenant a) (h2 : 0 ≤ left) (h3 : left < 2 ^ 40) : CallsF Tryz.prog 89 [.agg (sTenant a), aI left] (aI (lft left (wTenant a))) := by
  refine Prun c_89 (by simp [r_89]) (by simp) ?_
  (conv in k_89 => reduce); unfold r_89
  simp only [lTenant] at h
  simp only [wTenant]
  obtain ⟨hl0, hl1⟩ := h
  simp [sTenant]
  refine callG_F (h_szJobS a.queue (left) hl0 (by omega) (by omega)) (by simp) ?_
  by_cases g0 : left < (wL wJob a.queue : Int)
  case pos => simp only [lft_neg g0]; simp; try rw [lft_neg (by omega)]
  simp only [lft_pos (show (wL wJob a.queue : Int) ≤ left by omega)]
  have n0 : ¬ left - (wL wJob a.queue : Int) < 0 := by omega
  simp [n0]
  refine callG_F (h_szOutcomeS a.out (left - (wL wJob a.queue : Int)) hl1 (by omega) (by omega)) (by simp) ?_
  by_cases g1 : left - (wL wJob a.queue : Int) < (wL wOutcome a.out : Int)
  case pos => simp only [lft_neg g1]; simp; try rw [lft_neg (by omega)]
  simp only [lft_pos (show (wL wOutcome a.out : Int) ≤ left - (wL wJob a.queue : Int) by omega)]
  have n1 : ¬ left - (wL wJob a.queue : Int) - (wL wOutcome a.out : Int) < 0 := by omega
  simp [n1]
  try rw [lft_pos (by omega)]
  try omega
end
section
def k_44 : K := dc 0x411a05a040081005441442e50004405003043104079041040642640e583446010020400570575950b1a0558101550128251348a1d31404800070400450001833c23ce30d10e34334000c1401010000371410041410031c01450390410400031040790410402c22c0e4a3442810020400012412481811081c31c0006040141004039041040
def r_44 : Nat × List RV := (27, [.t 4])
theorem c_44 : codeIs PA 44 r_44 k_44 := by unfold codeIs; kernel_rfl
theorem h_szTenantS (xs : List TTenant) (left : Int) (hl : lL lTenant xs) (h2 : 0 ≤ left) (h3 : left < 2 ^ 40) : CallsF Tryz.prog 44 [.one (.ar false 0 10 (xs.map sTenant)), aI left] (aI (lft left (wL wTenant xs))) := by
  refine Prun c_44 (by simp [r_44]) (by simp) ?_
  (conv in k_44 => reduce); unfold r_44
  have hlen := hl.1
  have hlw := wL_len wTenant xs
  have w1 : IntKind.i64.wrap (left - xs.length) = left - xs.length := wrapI (by omega) (by omega)
  by_cases h1 : left - (xs.length : Int) < 0
  · rw [lft_neg (by omega)]
    simp [w1, h1]
  simp [w1, h1]
  refine awp_loop (fun n σ => ∃ i : Nat, i ≤ xs.length ∧ n = xs.length - i ∧ (wL wTenant (xs.take i) : Int) - i ≤ left - xs.length ∧ σ = ⟨[(0, .one (.ar false 0 10 (xs.map sTenant))), (1, aI (left - xs.length - ((wL wTenant (xs.take i) : Int) - i))), (5, aI i)], []⟩) (xs.length) ⟨0, by simp [wL]; omega⟩ ?_
  rintro n σ ⟨i, hi, rfl, hle, rfl⟩
  have hge := wL_len wTenant (xs.take i)
  rw [List.length_take, Nat.min_eq_left hi] at hge
  by_cases h : i < xs.length
  · have hst := wL_take wTenant h
    have hle2 := wL_take_le wTenant xs (i + 1)
    have hlen2 := wL_len wTenant (xs.drop (i + 1))
    have happ := wL_append wTenant (xs.take (i + 1)) (xs.drop (i + 1))
    rw [List.take_append_drop] at happ
    rw [List.length_drop] at hlen2
    simp [h, sTenant]
    refine callG_F (h_szTenant xs[i] _ (hl.2 i h) (by omega) (by omega)) (by simp) ?_
    generalize hv : left - (xs.length : Int) - ((wL wTenant (xs.take i) : Int) - i) = v at *
    by_cases h4 : v < (wTenant xs[i] : Int)
    · simp only [lft_neg h4]
      rw [lft_neg (by omega)]
      simp
    · have e : lft v (wTenant xs[i]) = v - wTenant xs[i] := lft_pos (by omega)
      have n1 : ¬ v - (wTenant xs[i] : Int) < 0 := by omega
      simp [e, n1]
      refine ⟨xs.length - (i + 1), by omega, i + 1, by omega, rfl, by omega, ?_⟩
      rw [wrapI (by omega) (by omega)]
      simp; omega
  · have : i = xs.length := by omega
    subst this
    rw [List.take_length] at hle
    rw [lft_pos (by omega)]
    simp
    omega
end
section
def k_12 : K := dc 0x4117057040081003104079041040582580e553445410020400015015134821281530404910010910841850400c4101e410410100900393cd10f04008100004e04e34c083a0534100c2c00422c20c6141003104079041040282280e493442410020400012012071820a8147040185001085082185040100e4108015a202040
def r_12 : Nat × List RV := (24, [.t 4])
theorem c_12 : codeIs PA 12 r_12 k_12 := by unfold codeIs; kernel_rfl
theorem h_szHouse (a : THouse) (left : Int) (h : lHouse a) (h2 : 0 ≤ left) (h3 : left < 2 ^ 40) : CallsF Tryz.prog 12 [.agg (sHouse a), aI left] (aI (lft left (wHouse a))) := by
  refine Prun c_12 (by simp [r_12]) (by simp) ?_
  (conv in k_12 => reduce); unfold r_12
  simp only [lHouse] at h
  simp only [wHouse]
  obtain ⟨hl0, hl1, hl2⟩ := h
  simp [sHouse]
  refine callG_F (h_szGramS a.grams (left) hl0 (by omega) (by omega)) (by simp) ?_
  by_cases g0 : left < (wL wGram a.grams : Int)
  case pos => simp only [lft_neg g0]; simp; try rw [lft_neg (by omega)]
  simp only [lft_pos (show (wL wGram a.grams : Int) ≤ left by omega)]
  have n0 : ¬ left - (wL wGram a.grams : Int) < 0 := by omega
  simp [n0]
  refine callG_F (h_szStoreS a.stores (left - (wL wGram a.grams : Int)) hl1 (by omega) (by omega)) (by simp) ?_
  by_cases g1 : left - (wL wGram a.grams : Int) < (wL wStore a.stores : Int)
  case pos => simp only [lft_neg g1]; simp; try rw [lft_neg (by omega)]
  simp only [lft_pos (show (wL wStore a.stores : Int) ≤ left - (wL wGram a.grams : Int) by omega)]
  have n1 : ¬ left - (wL wGram a.grams : Int) - (wL wStore a.stores : Int) < 0 := by omega
  simp [n1]
  refine callG_F (h_szTenantS a.tenants (left - (wL wGram a.grams : Int) - (wL wStore a.stores : Int)) hl2 (by omega) (by omega)) (by simp) ?_
  by_cases g2 : left - (wL wGram a.grams : Int) - (wL wStore a.stores : Int) < (wL wTenant a.tenants : Int)
  case pos => simp only [lft_neg g2]; simp; try rw [lft_neg (by omega)]
  simp only [lft_pos (show (wL wTenant a.tenants : Int) ≤ left - (wL wGram a.grams : Int) - (wL wStore a.stores : Int) by omega)]
  have n2 : ¬ left - (wL wGram a.grams : Int) - (wL wStore a.stores : Int) - (wL wTenant a.tenants : Int) < 0 := by omega
  simp [n2]
  try rw [lft_pos (by omega)]
  try omega
end
section
def k_195 : K := dc 0x40960560c0081004341342e4c00430400305454004bf153ce0475130601534800424914011d110040000f1003830090411400060cb08b2883442890c9000204004040000dc40c01040c00c7005100e410410000c704718604304305804ea251850c500010100204ea010fc041040
def r_195 : Nat × List RV := (23, [.t 2])
theorem c_195 : codeIs PA 195 r_195 k_195 := by unfold codeIs; kernel_rfl
theorem h_toIntSS (xs : List (List Int)) (hx : wL (wL w0) xs < 2 ^ 31) : CallsF Tryz.prog 195 [.one (.ar false 0 1 (xs.map sIS))] (.one (.ar true 54 1 (xs.map rIS))) := by
  refine Prun c_195 (by simp [r_195]) (by simp) ?_
  (conv in k_195 => reduce); unfold r_195
  have hlen := wL_len (wL w0) xs
  have hc : ((xs.length : Int) ≤ 4294967296) := by omega
  simp [hc]
  refine awp_loop (fun n σ => ∃ i : Nat, i ≤ xs.length ∧ n = xs.length - i ∧ σ = ⟨[(0, .one (.ar false 0 1 (xs.map sIS))), (3, .one (.vw 54 1 3 [] 0 xs.length)), (4, aI i)], [(3, ⟨54, 1, part rIS zIS xs i⟩)]⟩) (xs.length) ⟨0, by simp [part_zero, zIS]⟩ ?_
  rintro n σ ⟨i, hi, rfl, rfl⟩
  by_cases h : i < xs.length
  · have hw := wL_get (wL w0) xs i h
    have := part_set (r := rIS) (z := zIS) h
    simp [h, sIS]
    refine callG_F (h_toIntS xs[i] (by omega)) (by simp) ?_
    simp [h, part_get h, rIS, zIS]
    refine ⟨xs.length - (i + 1), by omega, i + 1, by omega, rfl, ?_⟩
    rw [wrapI (by omega) (by omega)]
    simp only [rIS, zIS] at this
    simp [rIS, zIS, this]
  · have : i = xs.length := by omega
    subst this
    simp [part_all]
end
section
def k_134 : K := dc 0x40960560c0081004341342e4c00430400305454004bf153ce04751305ba854d20010924500474440100003c400e0c02410450001832c22ca20d10a2432400081001010000371030041030031c01440390410400031c11c61813a8043058046aa51850c5000101002046a810fc041040
def r_134 : Nat × List RV := (23, [.t 2])
theorem c_134 : codeIs PA 134 r_134 k_134 := by unfold codeIs; kernel_rfl
theorem h_toIntSSS (xs : List (List (List Int))) (hx : wL (wL (wL w0)) xs < 2 ^ 31) : CallsF Tryz.prog 134 [.one (.ar false 0 1 (xs.map sISS))] (.one (.ar true 174 1 (xs.map rISS))) := by
  refine Prun c_134 (by simp [r_134]) (by simp) ?_
  (conv in k_134 => reduce); unfold r_134
  have hlen := wL_len (wL (wL w0)) xs
  have hc : ((xs.length : Int) ≤ 4294967296) := by omega
  simp [hc]
  refine awp_loop (fun n σ => ∃ i : Nat, i ≤ xs.length ∧ n = xs.length - i ∧ σ = ⟨[(0, .one (.ar false 0 1 (xs.map sISS))), (3, .one (.vw 174 1 3 [] 0 xs.length)), (4, aI i)], [(3, ⟨174, 1, part rISS zISS xs i⟩)]⟩) (xs.length) ⟨0, by simp [part_zero, zISS]⟩ ?_
  rintro n σ ⟨i, hi, rfl, rfl⟩
  by_cases h : i < xs.length
  · have hw := wL_get (wL (wL w0)) xs i h
    have := part_set (r := rISS) (z := zISS) h
    simp [h, sISS]
    refine callG_F (h_toIntSS xs[i] (by omega)) (by simp) ?_
    simp [h, part_get h, rISS, zISS]
    refine ⟨xs.length - (i + 1), by omega, i + 1, by omega, rfl, ?_⟩
    rw [wrapI (by omega) (by omega)]
    simp only [rISS, zISS] at this
    simp [rISS, zISS, this]
  · have : i = xs.length := by omega
    subst this
    simp [part_all]
end
section
def k_90 : K := dc 0x42020012fc2030410820401870012fc1c300618505ea451440010840401850400c11aa0430412294810400811aa043041229481001529202040
def r_90 : Nat × List RV := (9, [.c 2 1 true])
theorem c_90 : codeIs PA 90 r_90 k_90 := by unfold codeIs; kernel_rfl
theorem h_toGram (a : TGram) (ha : wGram a < 2 ^ 31) : CallsF Tryz.prog 90 [.agg (sGram a)] (.agg (rGram a)) := by
  refine Prun c_90 (by simp [r_90]) (by simp) ?_
  (conv in k_90 => reduce); unfold r_90
  simp only [wGram] at ha
  simp [sGram]
  refine callG_F (h_toIntSSS a.parts (by omega)) (by simp) ?_
  simp [rGram]
end
section
def k_46 : K := dc 0x40960560c0081004341342e4c00430400305454004bf153ce047513072a054d20410924500474440100003c400e0c02410450001832c22ca20d10a2432400081001010000371030041030031c01440390410400031c11c61811aa043058048a651850c5000101002048a410fc041040
def r_46 : Nat × List RV := (23, [.t 2])
theorem c_46 : codeIs PA 46 r_46 k_46 := by unfold codeIs; kernel_rfl
theorem h_toGramS (xs : List TGram) (hx : wL wGram xs < 2 ^ 31) : CallsF Tryz.prog 46 [.one (.ar false 0 1 (xs.map sGram))] (.one (.ar true 112 1 (xs.map rGram))) := by
  refine Prun c_46 (by simp [r_46]) (by simp) ?_
  (conv in k_46 => reduce); unfold r_46
  have hlen := wL_len wGram xs
  have hc : ((xs.length : Int) ≤ 4294967296) := by omega
  simp [hc]
  refine awp_loop (fun n σ => ∃ i : Nat, i ≤ xs.length ∧ n = xs.length - i ∧ σ = ⟨[(0, .one (.ar false 0 1 (xs.map sGram))), (3, .one (.vw 112 1 3 [] 0 xs.length)), (4, aI i)], [(3, ⟨112, 1, part rGram zGram xs i⟩)]⟩) (xs.length) ⟨0, by simp [part_zero, zGram]⟩ ?_
  rintro n σ ⟨i, hi, rfl, rfl⟩
  by_cases h : i < xs.length
  · have hw := wL_get wGram xs i h
    have := part_set (r := rGram) (z := zGram) h
    simp [h, sGram]
    refine callG_F (h_toGram xs[i] (by omega)) (by simp) ?_
    simp [h, part_get h, rGram, zGram]
    refine ⟨xs.length - (i + 1), by omega, i + 1, by omega, rfl, ?_⟩
    rw [wrapI (by omega) (by omega)]
    simp only [rGram, zGram] at this
    simp [rGram, zGram, this]
  · have : i = xs.length := by omega
    subst this
    simp [part_all]
end
section
def k_288 : K := dc 0x10b08008bf0b0c108208100928004bf0a0c11892018052070010870411850401460012fc1830061440010840401840400c10c10c000008252b4810400810c10c000008252b4810026ac202040
def r_288 : Nat × List RV := (12, [.c 2 2 true])
theorem c_288 : codeIs PA 288 r_288 k_288 := by unfold codeIs; kernel_rfl
theorem h_toConf (a : TConf) (ha : wConf a < 2 ^ 31) : CallsF Tryz.prog 288 [.agg (sConf a)] (.agg (rConf a)) := by
  refine Prun c_288 (by simp [r_288]) (by simp) ?_
  (conv in k_288 => reduce); unfold r_288
  simp only [wConf] at ha
  simp [sConf]
  refine callG_F (h_toIntS a.row (by omega)) (by simp) ?_
  simp [rConf]
end
section
def k_242 : K := dc 0x40960560c0081004341342e4c00430400305454008bf153ce087513078ac54d20420924500874440100003c400e0c02410450001832c22ca20d10a2432400081001010000371030041030031c01440390410400031c11c61810c10c00000a0094ae51850c5000101002094ac10fc041040
def r_242 : Nat × List RV := (23, [.t 2])
theorem c_242 : codeIs PA 242 r_242 k_242 := by unfold codeIs; kernel_rfl
theorem h_toConfS (xs : List TConf) (hx : wL wConf xs < 2 ^ 31) : CallsF Tryz.prog 242 [.one (.ar false 0 2 (xs.map sConf))] (.one (.ar true 252 2 (xs.map rConf))) := by
  refine Prun c_242 (by simp [r_242]) (by simp) ?_
  (conv in k_242 => reduce); unfold r_242
  have hlen := wL_len wConf xs
  have hc : ((xs.length : Int) ≤ 4294967296) := by omega
  simp [hc]
  refine awp_loop (fun n σ => ∃ i : Nat, i ≤ xs.length ∧ n = xs.length - i ∧ σ = ⟨[(0, .one (.ar false 0 2 (xs.map sConf))), (3, .one (.vw 252 2 3 [] 0 xs.length)), (4, aI i)], [(3, ⟨252, 2, part rConf zConf xs i⟩)]⟩) (xs.length) ⟨0, by simp [part_zero, zConf]⟩ ?_
  rintro n σ ⟨i, hi, rfl, rfl⟩
  by_cases h : i < xs.length
  · have hw := wL_get wConf xs i h
    have := part_set (r := rConf) (z := zConf) h
    simp [h, sConf]
    refine callG_F (h_toConf xs[i] (by omega)) (by simp) ?_
    simp [h, part_get h, rConf, zConf]
    refine ⟨xs.length - (i + 1), by omega, i + 1, by omega, rfl, ?_⟩
    rw [wrapI (by omega) (by omega)]
    simp only [rConf, zConf] at this
    simp [rConf, zConf, this]
  · have : i = xs.length := by omega
    subst this
    simp [part_all]
end
section
def k_196 : K := dc 0x43c20032fc3c304308204034e0012fc38308634c04aac530b00108b04218504024a0012fc2830462480010880411840401870012fc1c300618504aac51440010840401850400c252b04300000252b0430c33aa48104008252b04300000252b0430c33aa481003f2a202040
def r_196 : Nat × List RV := (16, [.c 2 3 true])
theorem c_196 : codeIs PA 196 r_196 k_196 := by unfold codeIs; kernel_rfl
theorem h_toLine (a : TLine) (ha : wLine a < 2 ^ 31) : CallsF Tryz.prog 196 [.agg (sLine a)] (.agg (rLine a)) := by
  refine Prun c_196 (by simp [r_196]) (by simp) ?_
  (conv in k_196 => reduce); unfold r_196
  simp only [wLine] at ha
  simp [sLine]
  refine callG_F (h_toConfS a.frm (by omega)) (by simp) ?_
  simp
  refine callG_F (h_toConfS a.too (by omega)) (by simp) ?_
  simp [rLine]
end
section
def k_135 : K := dc 0x10258158300204010d04d0b930010c1000c15150032fc54f3831d44c172a1534810c24914031d110040000f1003830090411400060cb08b2883442890c9000204004040000dc40c01040c00c7005100e410410000c7047186094ac10c0000094ac10c34280ceaa51850c50001010020cea810fc041040
def r_135 : Nat × List RV := (23, [.t 2])
theorem c_135 : codeIs PA 135 r_135 k_135 := by unfold codeIs; kernel_rfl
theorem h_toLineS (xs : List TLine) (hx : wL wLine xs < 2 ^ 31) : CallsF Tryz.prog 135 [.one (.ar false 0 3 (xs.map sLine))] (.one (.ar true 182 3 (xs.map rLine))) := by
  refine Prun c_135 (by simp [r_135]) (by simp) ?_
  (conv in k_135 => reduce); unfold r_135
  have hlen := wL_len wLine xs
  have hc : ((xs.length : Int) ≤ 4294967296) := by omega
  simp [hc]
  refine awp_loop (fun n σ => ∃ i : Nat, i ≤ xs.length ∧ n = xs.length - i ∧ σ = ⟨[(0, .one (.ar false 0 3 (xs.map sLine))), (3, .one (.vw 182 3 3 [] 0 xs.length)), (4, aI i)], [(3, ⟨182, 3, part rLine zLine xs i⟩)]⟩) (xs.length) ⟨0, by simp [part_zero, zLine]⟩ ?_
  rintro n σ ⟨i, hi, rfl, rfl⟩
  by_cases h : i < xs.length
  · have hw := wL_get wLine xs i h
    have := part_set (r := rLine) (z := zLine) h
    simp [h, sLine]
    refine callG_F (h_toLine xs[i] (by omega)) (by simp) ?_
    simp [h, part_get h, rLine, zLine]
    refine ⟨xs.length - (i + 1), by omega, i + 1, by omega, rfl, ?_⟩
    rw [wrapI (by omega) (by omega)]
    simp only [rLine, zLine] at this
    simp [rLine, zLine, this]
  · have : i = xs.length := by omega
    subst this
    simp [part_all]
end
section
def k_91 : K := dc 0x42c20022fc2c304208204024a0012fc28304624805fa452070010870411850401460012fc1830061440010840401840400c33aa04300000208fa520410020cea810c00000823e9481002629202040
def r_91 : Nat × List RV := (12, [.c 2 2 true])
theorem c_91 : codeIs PA 91 r_91 k_91 := by unfold codeIs; kernel_rfl
theorem h_toStore (a : TStore) (ha : wStore a < 2 ^ 31) : CallsF Tryz.prog 91 [.agg (sStore a)] (.agg (rStore a)) := by
  refine Prun c_91 (by simp [r_91]) (by simp) ?_
  (conv in k_91 => reduce); unfold r_91
  simp only [wStore] at ha
  simp [sStore]
  refine callG_F (h_toLineS a.lines (by omega)) (by simp) ?_
  simp [rStore]
end
section
def k_47 : K := dc 0x10258158300204010d04d0b930010c1000c15150022fc54f3821d44c1ce81534810824914021d110040000f1003830090411400060cb08b2883442890c9000204004040000dc40c01040c00c7005100e410410000c70471860cea810c00000a008fa651850c500010100208fa410fc041040
def r_47 : Nat × List RV := (23, [.t 2])
theorem c_47 : codeIs PA 47 r_47 k_47 := by unfold codeIs; kernel_rfl
theorem h_toStoreS (xs : List TStore) (hx : wL wStore xs < 2 ^ 31) : CallsF Tryz.prog 47 [.one (.ar false 0 2 (xs.map sStore))] (.one (.ar true 119 2 (xs.map rStore))) := by
  refine Prun c_47 (by simp [r_47]) (by simp) ?_
  (conv in k_47 => reduce); unfold r_47
  have hlen := wL_len wStore xs
  have hc : ((xs.length : Int) ≤ 4294967296) := by omega
  simp [hc]
  refine awp_loop (fun n σ => ∃ i : Nat, i ≤ xs.length ∧ n = xs.length - i ∧ σ = ⟨[(0, .one (.ar false 0 2 (xs.map sStore))), (3, .one (.vw 119 2 3 [] 0 xs.length)), (4, aI i)], [(3, ⟨119, 2, part rStore zStore xs i⟩)]⟩) (xs.length) ⟨0, by simp [part_zero, zStore]⟩ ?_
  rintro n σ ⟨i, hi, rfl, rfl⟩
  by_cases h : i < xs.length
  · have hw := wL_get wStore xs i h
    have := part_set (r := rStore) (z := zStore) h
    simp [h, sStore]
    refine callG_F (h_toStore xs[i] (by omega)) (by simp) ?_
    simp [h, part_get h, rStore, zStore]
    refine ⟨xs.length - (i + 1), by omega, i + 1, by omega, rfl, ?_⟩
    rw [wrapI (by omega) (by omega)]
    simp only [rStore, zStore] at this
    simp [rStore, zStore, this]
  · have : i = xs.length := by omega
    subst this
    simp [part_all]
end
section
def k_323 : K := dc 0x43420032fc3430430820402cc0012fc3030862ca00108a0421840402090012fc2430462070010870411840401460012fc1830061440010840401840400c00000000000000c37ab4810400800000000000000c37ab481003f2c202040
def r_323 : Nat × List RV := (14, [.c 2 3 true])
theorem c_323 : codeIs PA 323 r_323 k_323 := by unfold codeIs; kernel_rfl
theorem h_toErr (a : TErr) (ha : wErr a < 2 ^ 31) : CallsF Tryz.prog 323 [.agg (sErr a)] (.agg (rErr a)) := by
  refine Prun c_323 (by simp [r_323]) (by simp) ?_
  (conv in k_323 => reduce); unfold r_323
  simp only [wErr] at ha
  simp [sErr, rErr]
end
section
def k_291 : K := dc 0x40960560c0081004341342e4c0043040030545400cbf153ce0c751305bb054d20430924500c74440100003c400e0c02410450001832c22ca20d10a2432400081001010000371030041030031c01440390410400031c11c61800000000000000d80deae51850c50001010020deac10fc041040
def r_291 : Nat × List RV := (23, [.t 2])
theorem c_291 : codeIs PA 291 r_291 k_291 := by unfold codeIs; kernel_rfl
theorem h_toErrS (xs : List TErr) (hx : wL wErr xs < 2 ^ 31) : CallsF Tryz.prog 291 [.one (.ar false 0 3 (xs.map sErr))] (.one (.ar true 262 3 (xs.map rErr))) := by
  refine Prun c_291 (by simp [r_291]) (by simp) ?_
  (conv in k_291 => reduce); unfold r_291
  have hlen := wL_len wErr xs
  have hc : ((xs.length : Int) ≤ 4294967296) := by omega
  simp [hc]
  refine awp_loop (fun n σ => ∃ i : Nat, i ≤ xs.length ∧ n = xs.length - i ∧ σ = ⟨[(0, .one (.ar false 0 3 (xs.map sErr))), (3, .one (.vw 262 3 3 [] 0 xs.length)), (4, aI i)], [(3, ⟨262, 3, part rErr zErr xs i⟩)]⟩) (xs.length) ⟨0, by simp [part_zero, zErr]⟩ ?_
  rintro n σ ⟨i, hi, rfl, rfl⟩
  by_cases h : i < xs.length
  · have hw := wL_get wErr xs i h
    have := part_set (r := rErr) (z := zErr) h
    simp [h, sErr]
    refine callG_F (h_toErr xs[i] (by omega)) (by simp) ?_
    simp [h, part_get h, rErr, zErr]
    refine ⟨xs.length - (i + 1), by omega, i + 1, by omega, rfl, ?_⟩
    rw [wrapI (by omega) (by omega)]
    simp only [rErr, zErr] at this
    simp [rErr, zErr, this]
  · have : i = xs.length := by omega
    subst this
    simp [part_all]
end
section
def k_321 : K := dc 0x42820022fc2830420820402090012fc2430462070010870411840401460012fc1830061440010840401840400c00000000020b2a52041002000000000082ca9481002e6c202040
def r_321 : Nat × List RV := (11, [.c 2 2 true])
theorem c_321 : codeIs PA 321 r_321 k_321 := by unfold codeIs; kernel_rfl
theorem h_toSlot (a : TSlot) (ha : wSlot a < 2 ^ 31) : CallsF Tryz.prog 321 [.agg (sSlot a)] (.agg (rSlot a)) := by
  refine Prun c_321 (by simp [r_321]) (by simp) ?_
  (conv in k_321 => reduce); unfold r_321
  simp only [wSlot] at ha
  simp [sSlot, rSlot]
end
section
def k_289 : K := dc 0x10258158300204010d04d0b930010c1000c15150022fc54f3821d44c166c1534810824914021d110040000f1003830090411400060cb08b2883442890c9000204004040000dc40c01040c00c7005100e410410000c70471860000000000900b2a651850c50001010020b2a410fc041040
def r_289 : Nat × List RV := (23, [.t 2])
theorem c_289 : codeIs PA 289 r_289 k_289 := by unfold codeIs; kernel_rfl
theorem h_toSlotS (xs : List TSlot) (hx : wL wSlot xs < 2 ^ 31) : CallsF Tryz.prog 289 [.one (.ar false 0 2 (xs.map sSlot))] (.one (.ar true 154 2 (xs.map rSlot))) := by
  refine Prun c_289 (by simp [r_289]) (by simp) ?_
  (conv in k_289 => reduce); unfold r_289
  have hlen := wL_len wSlot xs
  have hc : ((xs.length : Int) ≤ 4294967296) := by omega
  simp [hc]
  refine awp_loop (fun n σ => ∃ i : Nat, i ≤ xs.length ∧ n = xs.length - i ∧ σ = ⟨[(0, .one (.ar false 0 2 (xs.map sSlot))), (3, .one (.vw 154 2 3 [] 0 xs.length)), (4, aI i)], [(3, ⟨154, 2, part rSlot zSlot xs i⟩)]⟩) (xs.length) ⟨0, by simp [part_zero, zSlot]⟩ ?_
  rintro n σ ⟨i, hi, rfl, rfl⟩
  by_cases h : i < xs.length
  · have hw := wL_get wSlot xs i h
    have := part_set (r := rSlot) (z := zSlot) h
    simp [h, sSlot]
    refine callG_F (h_toSlot xs[i] (by omega)) (by simp) ?_
    simp [h, part_get h, rSlot, zSlot]
    refine ⟨xs.length - (i + 1), by omega, i + 1, by omega, rfl, ?_⟩
    rw [wrapI (by omega) (by omega)]
    simp only [rSlot, zSlot] at this
    simp [rSlot, zSlot, this]
  · have : i = xs.length := by omega
    subst this
    simp [part_all]
end
section
def k_344 : K := dc 0x11408014bf140c11420810124c004bf130c419244180545000109004418504038f0012fc3c30c638d00108d0431840402cc0012fc3030862ca00108a0421840402090012fc2430462070010870411840401460012fc1830061440010840401840400c10c10c0000000000000000005160ad204100204304300000000000000000014582b4810056ad202040
def r_344 : Nat × List RV := (21, [.c 2 5 true])
theorem c_344 : codeIs PA 344 r_344 k_344 := by unfold codeIs; kernel_rfl
theorem h_toNode (a : TNode) (ha : wNode a < 2 ^ 31) : CallsF Tryz.prog 344 [.agg (sNode a)] (.agg (rNode a)) := by
  refine Prun c_344 (by simp [r_344]) (by simp) ?_
  (conv in k_344 => reduce); unfold r_344
  simp only [wNode] at ha
  simp [sNode]
  refine callG_F (h_toIntS a.kids (by omega)) (by simp) ?_
  simp [rNode]
end
section
def k_322 : K := dc 0x40960560c0081004341342e4c00430400305454014bf153ce147513070b054d20450924501474440100003c400e0c02410450001832c22ca20d10a2432400081001010000371030041030031c01440390410400031c11c61810c10c0000000000000000005428160ae51850c5000101002160ac10fc041040
def r_322 : Nat × List RV := (23, [.t 2])
theorem c_322 : codeIs PA 322 r_322 k_322 := by unfold codeIs; kernel_rfl
theorem h_toNodeS (xs : List TNode) (hx : wL wNode xs < 2 ^ 31) : CallsF Tryz.prog 322 [.one (.ar false 0 5 (xs.map sNode))] (.one (.ar true 264 5 (xs.map rNode))) := by
  refine Prun c_322 (by simp [r_322]) (by simp) ?_
  (conv in k_322 => reduce); unfold r_322
  have hlen := wL_len wNode xs
  have hc : ((xs.length : Int) ≤ 4294967296) := by omega
  simp [hc]
  refine awp_loop (fun n σ => ∃ i : Nat, i ≤ xs.length ∧ n = xs.length - i ∧ σ = ⟨[(0, .one (.ar false 0 5 (xs.map sNode))), (3, .one (.vw 264 5 3 [] 0 xs.length)), (4, aI i)], [(3, ⟨264, 5, part rNode zNode xs i⟩)]⟩) (xs.length) ⟨0, by simp [part_zero, zNode]⟩ ?_
  rintro n σ ⟨i, hi, rfl, rfl⟩
  by_cases h : i < xs.length
  · have hw := wL_get wNode xs i h
    have := part_set (r := rNode) (z := zNode) h
    simp [h, sNode]
    refine callG_F (h_toNode xs[i] (by omega)) (by simp) ?_
    simp [h, part_get h, rNode, zNode]
    refine ⟨xs.length - (i + 1), by omega, i + 1, by omega, rfl, ?_⟩
    rw [wrapI (by omega) (by omega)]
    simp only [rNode, zNode] at this
    simp [rNode, zNode, this]
  · have : i = xs.length := by omega
    subst this
    simp [part_all]
end
section
def k_290 : K := dc 0x42020012fc2030410820401870012fc1c300618505ab051440010840401850400c582b043041ee848104008582b043041ee848100106b202040
def r_290 : Nat × List RV := (9, [.c 2 1 true])
theorem c_290 : codeIs PA 290 r_290 k_290 := by unfold codeIs; kernel_rfl
theorem h_toTree (a : TTree) (ha : wTree a < 2 ^ 31) : CallsF Tryz.prog 290 [.agg (sTree a)] (.agg (rTree a)) := by
  refine Prun c_290 (by simp [r_290]) (by simp) ?_
  (conv in k_290 => reduce); unfold r_290
  simp only [wTree] at ha
  simp [sTree]
  refine callG_F (h_toNodeS a.nodes (by omega)) (by simp) ?_
  simp [rTree]
end
section
def k_243 : K := dc 0x47020072fc70304708204069b0012fc6c318669907bac56580010980461850405970012fc5c314659507aac55540410940451850404930012fc4c3106491079ac545000109004418504038f0012fc3c30c638d00108d0431840402cc0012fc3030862ca00108a0421840402090012fc2430462070010870411840401460012fc1830061440010840401840400c37ab043160ac10c2ca90430000000000000000001c7fa84810400837ab043160ac10c2ca90430000000000000000001c7fa848100712b202040
def r_243 : Nat × List RV := (29, [.c 2 7 true])
theorem c_243 : codeIs PA 243 r_243 k_243 := by unfold codeIs; kernel_rfl
theorem h_toRun (a : TRun) (ha : wRun a < 2 ^ 31) : CallsF Tryz.prog 243 [.agg (sRun a)] (.agg (rRun a)) := by
  refine Prun c_243 (by simp [r_243]) (by simp) ?_
  (conv in k_243 => reduce); unfold r_243
  simp only [wRun] at ha
  simp [sRun]
  refine callG_F (h_toSlotS a.slots (by omega)) (by simp) ?_
  simp
  refine callG_F (h_toTree a.tree (by omega)) (by simp [rTree]) ?_
  simp [rTree]
  refine callG_F (h_toErrS a.errs (by omega)) (by simp) ?_
  simp [rRun]
end
section
def k_197 : K := dc 0x11208028bf120c12820810104401cbf110c31903c12eb14f3811c23810c614100c34004bf0d0c218c2c18052ca00108a0421850402090012fc2430462070010870411840401460012fc1830061440010840401840400c37ab043160ac10c2ca904300000000000000000004304300000000028a0694810400837ab043160ac10c2ca904300000000000000000004304300000000028a06948100a1ab202040
def r_197 : Nat × List RV := (19, [.c 2 10 true])
theorem c_197 : codeIs PA 197 r_197 k_197 := by unfold codeIs; kernel_rfl
theorem h_toJob (a : TJob) (ha : wJob a < 2 ^ 31) : CallsF Tryz.prog 197 [.agg (sJob a)] (.agg (rJob a)) := by
  refine Prun c_197 (by simp [r_197]) (by simp) ?_
  (conv in k_197 => reduce); unfold r_197
  simp only [wJob] at ha
  simp [sJob]
  refine callG_F (h_toIntS a.input (by omega)) (by simp) ?_
  simp
  refine callG_F (h_toRun a.run (by omega)) (by simp [rRun]) ?_
  simp [rJob, rRun]
end
section
def k_136 : K := dc 0x10258158300204010d04d0b930010c1000c151500a2fc54f38a1d44c176a15348128249140a1d110040000f1003830090411400060cb08b2883442890c9000204004040000dc40c01040c00c7005100e410410000c70471860deac10c582b0430b2a410c00000000000000000010c10c000000000aa29281a651850c5000101002281a410fc041040
def r_136 : Nat × List RV := (23, [.t 2])
theorem c_136 : codeIs PA 136 r_136 k_136 := by unfold codeIs; kernel_rfl
theorem h_toJobS (xs : List TJob) (hx : wL wJob xs < 2 ^ 31) : CallsF Tryz.prog 136 [.one (.ar false 0 10 (xs.map sJob))] (.one (.ar true 105 10 (xs.map rJob))) := by
  refine Prun c_136 (by simp [r_136]) (by simp) ?_
  (conv in k_136 => reduce); unfold r_136
  have hlen := wL_len wJob xs
  have hc : ((xs.length : Int) ≤ 4294967296) := by omega
  simp [hc]
  refine awp_loop (fun n σ => ∃ i : Nat, i ≤ xs.length ∧ n = xs.length - i ∧ σ = ⟨[(0, .one (.ar false 0 10 (xs.map sJob))), (3, .one (.vw 105 10 3 [] 0 xs.length)), (4, aI i)], [(3, ⟨105, 10, part rJob zJob xs i⟩)]⟩) (xs.length) ⟨0, by simp [part_zero, zJob]⟩ ?_
  rintro n σ ⟨i, hi, rfl, rfl⟩
  by_cases h : i < xs.length
  · have hw := wL_get wJob xs i h
    have := part_set (r := rJob) (z := zJob) h
    simp [h, sJob]
    refine callG_F (h_toJob xs[i] (by omega)) (by simp) ?_
    simp [h, part_get h, rJob, zJob]
    refine ⟨xs.length - (i + 1), by omega, i + 1, by omega, rfl, ?_⟩
    rw [wrapI (by omega) (by omega)]
    simp only [rJob, zJob] at this
    simp [rJob, zJob, this]
  · have : i = xs.length := by omega
    subst this
    simp [part_all]
end
section
def k_198 : K :=
 .seq (
  .reg none [⟨(some 1), none, .box 240 3 (.t 0)⟩,
    ⟨(some 2), none, .alc 29 3 [(.int .i64 (0)), (.int .i64 (0)), (.str ⟨#[]⟩)]⟩]) (
 .seq (
  .reg none [⟨(some 3), none, .alc 29 3 [(.int .i64 (0)), (.int .i64 (0)), (.str ⟨#[]⟩)]⟩]) (
 .seq (
  .reg none [⟨(some 4), none, .fad 0 (.t 1)⟩,
    ⟨(some 5), none, .ld 1 false (.t 4)⟩,
    ⟨(some 6), none, .fad 0 (.t 3)⟩,
    ⟨none, none, .st 1 false (.t 6) (.t 5)⟩]) (
 .seq (
  .reg none [⟨(some 7), none, .fad 1 (.t 1)⟩,
    ⟨(some 8), none, .ld 1 false (.t 7)⟩,
    ⟨(some 9), none, .fad 1 (.t 3)⟩,
    ⟨none, none, .st 1 false (.t 9) (.t 8)⟩]) (
 .seq (
  .reg none [⟨(some 10), none, .fad 2 (.t 1)⟩,
    ⟨(some 11), none, .ld 1 false (.t 10)⟩,
    ⟨(some 12), none, .fad 2 (.t 3)⟩,
    ⟨none, none, .st 1 false (.t 12) (.t 11)⟩]) (
 .seq (
  .reg none [⟨(some 13), none, .ld 3 true (.t 3)⟩,
    ⟨none, none, .st 3 false (.t 2) (.t 13)⟩]) (
 .ret))))))
def r_198 : Nat × List RV := (14, [.c 2 3 true])
theorem c_198 : codeIs PA 198 r_198 k_198 := by unfold codeIs; kernel_rfl
theorem h_toOutcome (a : TOutcome) (ha : wOutcome a < 2 ^ 31) : CallsF Tryz.prog 198 [.agg (sOutcome a)] (.agg (rOutcome a)) := by
  refine Prun c_198 (by simp [r_198]) (by simp) ?_
  unfold k_198 r_198
  simp only [wOutcome] at ha
  simp [sOutcome, rOutcome]
end
section
def k_137 : K :=
 .seq (
  .reg none [⟨(some 2), none, .asn (.c (.ar true 29 3 []))⟩]) (
 .seq (
  .reg none [⟨(some 5), none, .mv (.t 0)⟩,
    ⟨(some 6), none, .len (.t 5)⟩,
    ⟨(some 7), none, .mks 29 3 32 [(.int .i64 (0)), (.int .i64 (0)), (.str ⟨#[]⟩)] (.t 6) (.t 6)⟩,
    ⟨(some 3), none, .asn (.t 7)⟩]) (
 .seq (
  .seq (
   .reg none [⟨(some 4), none, .asn (.c (.int .i64 (0)))⟩]) (
  .block 0 (
   .loop (some ([0, 3, 4], [0, 3, 4, 1000])) (
    .seq (
     .seq (
      .reg none [⟨(some 8), none, .mv (.t 4)⟩,
        ⟨(some 9), none, .mv (.t 0)⟩,
        ⟨(some 10), none, .len (.t 9)⟩,
        ⟨(some 11), none, .bin .lss (.t 8) (.t 10)⟩]) (
     .cond (.t 11) (
      .skip) (
      .exit 0))) (
    .seq (
     .block 1 (
      .reg none [⟨(some 14), none, .mv (.t 3)⟩,
        ⟨(some 15), none, .mv (.t 4)⟩,
        ⟨(some 16), none, .mv (.t 0)⟩,
        ⟨(some 17), none, .mv (.t 4)⟩,
        ⟨(some 18), none, .iad 3 (.t 16) (.t 17)⟩,
        ⟨(some 19), none, .ld 3 true (.t 18)⟩,
        ⟨(some 20), none, .call 198 [(.t 19)]⟩,
        ⟨(some 21), none, .iad 3 (.t 14) (.t 15)⟩,
        ⟨none, none, .st 3 false (.t 21) (.t 20)⟩])) (
    .reg none [⟨(some 12), none, .mv (.t 4)⟩,
      ⟨(some 13), none, .bin .add (.t 12) (.c (.int .i64 (1)))⟩,
      ⟨(some 4), none, .asn (.t 13)⟩])))))) (
 .seq (
  .reg none [⟨(some 22), none, .mv (.t 3)⟩,
    ⟨(some 2), none, .asn (.t 22)⟩]) (
 .ret))))
def r_137 : Nat × List RV := (23, [.t 2])
theorem c_137 : codeIs PA 137 r_137 k_137 := by unfold codeIs; kernel_rfl
theorem h_toOutcomeS (xs : List TOutcome) (hx : wL wOutcome xs < 2 ^ 31) : CallsF Tryz.prog 137 [.one (.ar false 0 3 (xs.map sOutcome))] (.one (.ar true 29 3 (xs.map rOutcome))) := by
  refine Prun c_137 (by simp [r_137]) (by simp) ?_
  unfold k_137 r_137
  have hlen := wL_len wOutcome xs
  have hc : ((xs.length : Int) ≤ 4294967296) := by omega
  simp [hc]
  refine awp_loop (fun n σ => ∃ i : Nat, i ≤ xs.length ∧ n = xs.length - i ∧ σ = ⟨[(0, .one (.ar false 0 3 (xs.map sOutcome))), (3, .one (.vw 29 3 3 [] 0 xs.length)), (4, aI i)], [(3, ⟨29, 3, part rOutcome zOutcome xs i⟩)]⟩) (xs.length) ⟨0, by simp [part_zero, zOutcome]⟩ ?_
  rintro n σ ⟨i, hi, rfl, rfl⟩
  by_cases h : i < xs.length
  · have hw := wL_get wOutcome xs i h
    have := part_set (r := rOutcome) (z := zOutcome) h
    simp [h, sOutcome]
    refine callG_F (h_toOutcome xs[i] (by omega)) (by simp) ?_
    simp [h, part_get h, rOutcome, zOutcome]
    refine ⟨xs.length - (i + 1), by omega, i + 1, by omega, rfl, ?_⟩
    rw [wrapI (by omega) (by omega)]
    simp only [rOutcome, zOutcome] at this
    simp [rOutcome, zOutcome, this]
  · have : i = xs.length := by omega
    subst this
    simp [part_all]
end
section
def k_92 : K := dc 0x490200a2fc90304a0820408a30012fc8c32468a1061a458600010a004918504079f0012fc7c320679d060a4575c00109c04818504069b0012fc6c31c66990010990471840405d80012fc6031865d60010960461840405150012fc5431465130010930451840404520012fc48310645000109004418404038f0012fc3c30c638d00108d0431840402cc0012fc3030862ca00108a0421840402090012fc2430462070010870411840401460012fc1830061440010840401840400c37410ca06904300000000000000000000000000000000000028a7e84810400837410ca06904300000000000000000000000000000000000028a7e848100a769202040
def r_92 : Nat × List RV := (37, [.c 2 10 true])
theorem c_92 : codeIs PA 92 r_92 k_92 := by unfold codeIs; kernel_rfl
theorem h_toTenant (a : TTenant) (ha : wTenant a < 2 ^ 31) : CallsF Tryz.prog 92 [.agg (sTenant a)] (.agg (rTenant a)) := by
  refine Prun c_92 (by simp [r_92]) (by simp) ?_
  (conv in k_92 => reduce); unfold r_92
  simp only [wTenant] at ha
  simp [sTenant]
  refine callG_F (h_toJobS a.queue (by omega)) (by simp) ?_
  simp
  refine callG_F (h_toOutcomeS a.out (by omega)) (by simp) ?_
  simp [rTenant]
end
section
def k_48 : K := dc 0x10258158300204010d04d0b930010c1000c151500a2fc54f38a1d44c1d2815348128249140a1d110040000f1003830090411400060cb08b2883442890c9000204004040000dc40c01040c00c7005100e410410000c70471860dd043281a410c000000000000000000000000000000000000a22929fa251850c500010100229fa010fc041040
def r_48 : Nat × List RV := (23, [.t 2])
theorem c_48 : codeIs PA 48 r_48 k_48 := by unfold codeIs; kernel_rfl
theorem h_toTenantS (xs : List TTenant) (hx : wL wTenant xs < 2 ^ 31) : CallsF Tryz.prog 48 [.one (.ar false 0 10 (xs.map sTenant))] (.one (.ar true 71 10 (xs.map rTenant))) := by
  refine Prun c_48 (by simp [r_48]) (by simp) ?_
  (conv in k_48 => reduce); unfold r_48
  have hlen := wL_len wTenant xs
  have hc : ((xs.length : Int) ≤ 4294967296) := by omega
  simp [hc]
  refine awp_loop (fun n σ => ∃ i : Nat, i ≤ xs.length ∧ n = xs.length - i ∧ σ = ⟨[(0, .one (.ar false 0 10 (xs.map sTenant))), (3, .one (.vw 71 10 3 [] 0 xs.length)), (4, aI i)], [(3, ⟨71, 10, part rTenant zTenant xs i⟩)]⟩) (xs.length) ⟨0, by simp [part_zero, zTenant]⟩ ?_
  rintro n σ ⟨i, hi, rfl, rfl⟩
  by_cases h : i < xs.length
  · have hw := wL_get wTenant xs i h
    have := part_set (r := rTenant) (z := zTenant) h
    simp [h, sTenant]
    refine callG_F (h_toTenant xs[i] (by omega)) (by simp) ?_
    simp [h, part_get h, rTenant, zTenant]
    refine ⟨xs.length - (i + 1), by omega, i + 1, by omega, rfl, ?_⟩
    rw [wrapI (by omega) (by omega)]
    simp only [rTenant, zTenant] at this
    simp [rTenant, zTenant, this]
  · have : i = xs.length := by omega
    subst this
    simp [part_all]
end
section
def k_14 : K := dc 0x11608014bf160c114208101454004bf150c41944c122815348004248110614101044004bf110c31903c11e814f3800423810c614100c34004bf0d0c218c2c11a814b28004228108614100824004bf090c11881c00421c104610100518004bf060c018510004210100610100329fa010c23e9043048a410c000000000516448104008a7e804308fa410c122904300000000014591204015a202040
def r_14 : Nat × List RV := (23, [.c 2 5 true])
theorem c_14 : codeIs PA 14 r_14 k_14 := by unfold codeIs; kernel_rfl
theorem h_toHouse (a : THouse) (ha : wHouse a < 2 ^ 31) : CallsF Tryz.prog 14 [.agg (sHouse a)] (.agg (rHouse a)) := by
  refine Prun c_14 (by simp [r_14]) (by simp) ?_
  (conv in k_14 => reduce); unfold r_14
  simp only [wHouse] at ha
  simp [sHouse]
  refine callG_F (h_toGramS a.grams (by omega)) (by simp) ?_
  simp
  refine callG_F (h_toStoreS a.stores (by omega)) (by simp) ?_
  simp
  refine callG_F (h_toTenantS a.tenants (by omega)) (by simp) ?_
  simp [rHouse]
end
section
def k_3 : K :=
 .seq (
  .reg none [⟨(some 3), none, .box 26 5 (.t 0)⟩,
    ⟨(some 6), none, .asn (.c (.bool false))⟩]) (
 .seq (
  .reg none [⟨(some 7), none, .asn (.c (.int .i64 (1048576)))⟩]) (
 .seq (
  .reg none [⟨(some 13), none, .ld 5 true (.t 3)⟩,
    ⟨(some 14), none, .mv (.t 7)⟩,
    ⟨(some 15), none, .call 12 [(.t 13), (.t 14)]⟩,
    ⟨(some 7), none, .asn (.t 15)⟩]) (
 .seq (
  .seq (
   .reg none [⟨(some 16), none, .mv (.t 7)⟩,
     ⟨(some 17), none, .bin .lss (.t 16) (.c (.int .i64 (0)))⟩]) (
  .cond (.t 17) (
   .seq (
    .reg none [⟨(some 6), none, .asn (.c (.bool true))⟩]) (
   .ret)) (
   .skip))) (
 .seq (
  .reg none [⟨(some 19), none, .ld 5 true (.t 3)⟩,
    ⟨(some 20), none, .call 14 [(.t 19)]⟩,
    ⟨(some 21), none, .mv (.t 1)⟩,
    ⟨(some 22), none, .mv (.t 2)⟩,
    ⟨(some 23), none, .call 13 [(.t 20), (.t 21), (.t 22)]⟩,
    ⟨(some 18), none, .mv (.t 23)⟩,
    ⟨(some 24), none, .ext 0 (.t 18)⟩,
    ⟨(some 25), none, .ext 1 (.t 18)⟩,
    ⟨(some 8), none, .alc 29 3 [(.int .i64 (0)), (.int .i64 (0)), (.str ⟨#[]⟩)]⟩,
    ⟨none, none, .st 3 false (.t 8) (.t 24)⟩,
    ⟨(some 9), none, .asn (.t 25)⟩]) (
 .seq (
  .reg none [⟨(some 26), none, .ld 5 true (.t 3)⟩,
    ⟨(some 27), none, .call 14 [(.t 26)]⟩,
    ⟨(some 10), none, .alc 36 5 [(.int .i64 (0)), (.int .i64 (0)), (.ar true 112 1 []), (.ar true 119 2 []), (.ar true 71 10 [])]⟩,
    ⟨none, none, .st 5 false (.t 10) (.t 27)⟩]) (
 .seq (
  .reg none [⟨(some 29), none, .ld 5 true (.t 10)⟩,
    ⟨(some 30), none, .mv (.t 1)⟩,
    ⟨(some 31), none, .mv (.t 2)⟩,
    ⟨(some 32), none, .call 15 [(.t 29), (.t 30), (.t 31)]⟩,
    ⟨(some 28), none, .mv (.t 32)⟩,
    ⟨(some 33), none, .ext 0 (.t 28)⟩,
    ⟨(some 34), none, .ext 1 (.t 28)⟩,
    ⟨(some 11), none, .alc 29 3 [(.int .i64 (0)), (.int .i64 (0)), (.str ⟨#[]⟩)]⟩,
    ⟨none, none, .st 3 false (.t 11) (.t 33)⟩,
    ⟨(some 12), none, .asn (.t 34)⟩]) (
 .seq (
  .seq (
   .reg none [⟨(some 35), none, .ld 3 true (.t 11)⟩,
     ⟨(some 36), none, .ld 3 true (.t 8)⟩,
     ⟨(some 37), none, .call 16 [(.t 35), (.t 36)]⟩,
     ⟨(some 38), none, .not (.t 37)⟩,
     ⟨(some 39), none, .mv (.t 38)⟩,
     ⟨(some 40), (some (39, false)), .mv (.t 12)⟩,
     ⟨(some 41), (some (39, false)), .mv (.t 9)⟩,
     ⟨(some 42), (some (39, false)), .beq true (.t 40) (.t 41)⟩,
     ⟨(some 43), none, .pick (.t 39) (.c (.bool true)) (.t 42)⟩]) (
  .cond (.t 43) (
   .seq (
    .reg none [⟨(some 6), none, .asn (.c (.bool false))⟩]) (
   .ret)) (
   .skip))) (
 .seq (
  .seq (
   .grp none 3 [0, 1] [2] [⟨(some 44), none, .ld 5 true (.t 10)⟩,
     ⟨(some 45), none, .ld 5 true (.t 3)⟩,
     ⟨(some 46), none, .call 14 [(.t 45)]⟩,
     ⟨(some 47), none, .call 17 [(.t 44), (.t 46)]⟩,
     ⟨(some 48), none, .not (.t 47)⟩]) (
  .cond (.t 48) (
   .seq (
    .reg none [⟨(some 6), none, .asn (.c (.bool false))⟩]) (
   .ret)) (
   .skip))) (
 .seq (
  .reg none [⟨(some 6), none, .asn (.c (.bool true))⟩]) (
 .ret))))))))))
def r_3 : Nat × List RV := (49, [.t 6])
theorem c_3 : codeIs PA 3 r_3 k_3 := by unfold codeIs; kernel_rfl
theorem h_law_OutcomeOf (a : THouse) (hla : lHouse a) (t k : Int) : CallsF Tryz.prog 3 [.agg (sHouse a), aI t, aI k] (aB true) := by
  refine Prun c_3 (by simp [r_3]) (by simp) ?_
  unfold k_3 r_3
  have hsz1 := h_szHouse a 1048576 hla (by omega) (by omega)
  simp [sHouse]
  refine callG_F hsz1 (by simp) ?_
  by_cases g1 : (1048576 : Int) < (wHouse a : Int)
  · simp [lft_neg g1]
  have e1 : lft 1048576 (wHouse a) = 1048576 - wHouse a := lft_pos (by omega)
  have n1 : ¬ (1048576 : Int) - wHouse a < 0 := by omega
  simp [e1, n1]
  have hta := h_toHouse a (by omega)
  have hea := h_eqHouse a (by omega)
  have hs := h_spec_OutcomeOf a t k (by omega) hla
  have hi := h_impl_OutcomeOf a t k (by omega) hla
  have how := outcomeG_w a t k
  generalize (outcomeG a t k).1 = o at *
  generalize (outcomeG a t k).2 = b at *
  have heo := h_eqOutcome o (by omega)
  simp only [rOutcome, sOutcome] at hs hi heo
  first | refine callG_F hta (by simp) ?_ | refine callOG_F hta (by simp) ?_ | refine gcal_F hta (by simp) ?_ | refine callRG_F hta rfl rfl (by simp) (by simp) ?_ | refine ⟨_, by simp, hta, ?_⟩
  try simp [rHouse]
  first | refine callG_F hs (by simp) ?_ | refine callOG_F hs (by simp) ?_ | refine gcal_F hs (by simp) ?_ | refine callRG_F hs rfl rfl (by simp) (by simp) ?_ | refine ⟨_, by simp, hs, ?_⟩
  try simp [rHouse]
  first | refine callG_F hta (by simp) ?_ | refine callOG_F hta (by simp) ?_ | refine gcal_F hta (by simp) ?_ | refine callRG_F hta rfl rfl (by simp) (by simp) ?_ | refine ⟨_, by simp, hta, ?_⟩
  try simp [rHouse]
  first | refine callG_F hi (by simp) ?_ | refine callOG_F hi (by simp) ?_ | refine gcal_F hi (by simp) ?_ | refine callRG_F hi rfl rfl (by simp) (by simp) ?_ | refine ⟨_, by simp, hi, ?_⟩
  try simp [rHouse]
  first | refine callG_F heo (by simp) ?_ | refine callOG_F heo (by simp) ?_ | refine gcal_F heo (by simp) ?_ | refine callRG_F heo rfl rfl (by simp) (by simp) ?_ | refine ⟨_, by simp, heo, ?_⟩
  try simp [rHouse]
  first | refine callG_F hta (by simp) ?_ | refine callOG_F hta (by simp) ?_ | refine gcal_F hta (by simp) ?_ | refine callRG_F hta rfl rfl (by simp) (by simp) ?_ | refine ⟨_, by simp, hta, ?_⟩
  try simp [rHouse]
  first | refine callG_F hea (by simp) ?_ | refine callOG_F hea (by simp) ?_ | refine gcal_F hea (by simp) ?_ | refine callRG_F hea rfl rfl (by simp) (by simp) ?_ | refine ⟨_, by simp, hea, ?_⟩
  try simp [rHouse]
end
section
def shGram : List Sh := [.l 1 [.l 1 [.l 1 [.i]]]]
theorem of_Gram (x : List C) (h : inShs shGram x) : ∃ a : TGram, x = sGram a ∧ lGram a := by
  simp only [shGram, inShs] at h
  obtain ⟨c0, r0, rfl, h0, rfl⟩ := h
  obtain ⟨n0, rfl, g0⟩ := of_sl of_ISS c0 h0
  refine ⟨⟨n0⟩, rfl, ?_⟩
  simp only [lGram]
  exact g0
end
section
def shConf : List Sh := [.i, .l 1 [.i]]
theorem of_Conf (x : List C) (h : inShs shConf x) : ∃ a : TConf, x = sConf a ∧ lConf a := by
  simp only [shConf, inShs] at h
  obtain ⟨c0, r0, rfl, h0, c1, r1, rfl, h1, rfl⟩ := h
  simp only [inSh] at h0
  obtain ⟨n0, rfl, v0⟩ := h0
  obtain ⟨n1, rfl, g1⟩ := of_sl of_int c1 h1
  refine ⟨⟨n0, n1⟩, rfl, ?_⟩
  simp only [lConf]
  exact g1
end
section
def shLine : List Sh := [.l 2 shConf, .i, .l 2 shConf]
theorem of_Line (x : List C) (h : inShs shLine x) : ∃ a : TLine, x = sLine a ∧ lLine a := by
  simp only [shLine, inShs] at h
  obtain ⟨c0, r0, rfl, h0, c1, r1, rfl, h1, c2, r2, rfl, h2, rfl⟩ := h
  obtain ⟨n0, rfl, g0⟩ := of_sl of_Conf c0 h0
  simp only [inSh] at h1
  obtain ⟨n1, rfl, v1⟩ := h1
  obtain ⟨n2, rfl, g2⟩ := of_sl of_Conf c2 h2
  refine ⟨⟨n0, n1, n2⟩, rfl, ?_⟩
  simp only [lLine]
  exact ⟨g0, g2⟩
end
section
def shStore : List Sh := [.i, .l 3 shLine]
theorem of_Store (x : List C) (h : inShs shStore x) : ∃ a : TStore, x = sStore a ∧ lStore a := by
  simp only [shStore, inShs] at h
  obtain ⟨c0, r0, rfl, h0, c1, r1, rfl, h1, rfl⟩ := h
  simp only [inSh] at h0
  obtain ⟨n0, rfl, v0⟩ := h0
  obtain ⟨n1, rfl, g1⟩ := of_sl of_Line c1 h1
  refine ⟨⟨n0, n1⟩, rfl, ?_⟩
  simp only [lStore]
  exact g1
end
section
def shErr : List Sh := [.i, .i, .i]
theorem of_Err (x : List C) (h : inShs shErr x) : ∃ a : TErr, x = sErr a ∧ lErr a := by
  simp only [shErr, inShs] at h
  obtain ⟨c0, r0, rfl, h0, c1, r1, rfl, h1, c2, r2, rfl, h2, rfl⟩ := h
  simp only [inSh] at h0
  obtain ⟨n0, rfl, v0⟩ := h0
  simp only [inSh] at h1
  obtain ⟨n1, rfl, v1⟩ := h1
  simp only [inSh] at h2
  obtain ⟨n2, rfl, v2⟩ := h2
  refine ⟨⟨n0, n1, n2⟩, rfl, ?_⟩
  simp only [lErr]
end
section
def shNode : List Sh := [.i, .i, .i, .i, .l 1 [.i]]
theorem of_Node (x : List C) (h : inShs shNode x) : ∃ a : TNode, x = sNode a ∧ lNode a := by
  simp only [shNode, inShs] at h
  obtain ⟨c0, r0, rfl, h0, c1, r1, rfl, h1, c2, r2, rfl, h2, c3, r3, rfl, h3, c4, r4, rfl, h4, rfl⟩ := h
  simp only [inSh] at h0
  obtain ⟨n0, rfl, v0⟩ := h0
  simp only [inSh] at h1
  obtain ⟨n1, rfl, v1⟩ := h1
  simp only [inSh] at h2
  obtain ⟨n2, rfl, v2⟩ := h2
  simp only [inSh] at h3
  obtain ⟨n3, rfl, v3⟩ := h3
  obtain ⟨n4, rfl, g4⟩ := of_sl of_int c4 h4
  refine ⟨⟨n0, n1, n2, n3, n4⟩, rfl, ?_⟩
  simp only [lNode]
  exact g4
end
section
def shSlot : List Sh := [.i, .i]
theorem of_Slot (x : List C) (h : inShs shSlot x) : ∃ a : TSlot, x = sSlot a ∧ lSlot a := by
  simp only [shSlot, inShs] at h
  obtain ⟨c0, r0, rfl, h0, c1, r1, rfl, h1, rfl⟩ := h
  simp only [inSh] at h0
  obtain ⟨n0, rfl, v0⟩ := h0
  simp only [inSh] at h1
  obtain ⟨n1, rfl, v1⟩ := h1
  refine ⟨⟨n0, n1⟩, rfl, ?_⟩
  simp only [lSlot]
end
section
def shJob : List Sh := [.i, .i, .l 1 [.i], .i, .i, .i, .i, .l 2 shSlot, .l 5 shNode, .l 3 shErr]
theorem of_Job (x : List C) (h : inShs shJob x) : ∃ a : TJob, x = sJob a ∧ lJob a := by
  simp only [shJob, inShs] at h
  obtain ⟨c0, r0, rfl, h0, c1, r1, rfl, h1, c2, r2, rfl, h2, c3, r3, rfl, h3, c4, r4, rfl, h4, c5, r5, rfl, h5, c6, r6, rfl, h6, c7, r7, rfl, h7, c8, r8, rfl, h8, c9, r9, rfl, h9, rfl⟩ := h
  simp only [inSh] at h0
  obtain ⟨n0, rfl, v0⟩ := h0
  simp only [inSh] at h1
  obtain ⟨n1, rfl, v1⟩ := h1
  obtain ⟨n2, rfl, g2⟩ := of_sl of_int c2 h2
  simp only [inSh] at h3
  obtain ⟨n3, rfl, v3⟩ := h3
  simp only [inSh] at h4
  obtain ⟨n4, rfl, v4⟩ := h4
  simp only [inSh] at h5
  obtain ⟨n5, rfl, v5⟩ := h5
  simp only [inSh] at h6
  obtain ⟨n6, rfl, v6⟩ := h6
  obtain ⟨n7, rfl, g7⟩ := of_sl of_Slot c7 h7
  obtain ⟨n8, rfl, g8⟩ := of_sl of_Node c8 h8
  obtain ⟨n9, rfl, g9⟩ := of_sl of_Err c9 h9
  refine ⟨⟨n0, n1, n2, ⟨n3, n4, n5, n6, n7, ⟨n8⟩, n9⟩⟩, rfl, ?_⟩
  simp only [lJob, lRun, lTree]
  exact ⟨g2, ⟨g7, g8, g9⟩⟩
end
section
def shOutcome : List Sh := [.i, .i, .s]
theorem of_Outcome (x : List C) (h : inShs shOutcome x) : ∃ a : TOutcome, x = sOutcome a ∧ lOutcome a := by
  simp only [shOutcome, inShs] at h
  obtain ⟨c0, r0, rfl, h0, c1, r1, rfl, h1, c2, r2, rfl, h2, rfl⟩ := h
  simp only [inSh] at h0
  obtain ⟨n0, rfl, v0⟩ := h0
  simp only [inSh] at h1
  obtain ⟨n1, rfl, v1⟩ := h1
  simp only [inSh] at h2
  obtain ⟨n2, rfl, g2⟩ := h2
  refine ⟨⟨n0, n1, n2⟩, rfl, ?_⟩
  simp only [lOutcome]
  exact g2
end
section
def shTenant : List Sh := [.i, .i, .i, .i, .i, .i, .i, .i, .l 10 shJob, .l 3 shOutcome]
theorem of_Tenant (x : List C) (h : inShs shTenant x) : ∃ a : TTenant, x = sTenant a ∧ lTenant a := by
  simp only [shTenant, inShs] at h
  obtain ⟨c0, r0, rfl, h0, c1, r1, rfl, h1, c2, r2, rfl, h2, c3, r3, rfl, h3, c4, r4, rfl, h4, c5, r5, rfl, h5, c6, r6, rfl, h6, c7, r7, rfl, h7, c8, r8, rfl, h8, c9, r9, rfl, h9, rfl⟩ := h
  simp only [inSh] at h0
  obtain ⟨n0, rfl, v0⟩ := h0
  simp only [inSh] at h1
  obtain ⟨n1, rfl, v1⟩ := h1
  simp only [inSh] at h2
  obtain ⟨n2, rfl, v2⟩ := h2
  simp only [inSh] at h3
  obtain ⟨n3, rfl, v3⟩ := h3
  simp only [inSh] at h4
  obtain ⟨n4, rfl, v4⟩ := h4
  simp only [inSh] at h5
  obtain ⟨n5, rfl, v5⟩ := h5
  simp only [inSh] at h6
  obtain ⟨n6, rfl, v6⟩ := h6
  simp only [inSh] at h7
  obtain ⟨n7, rfl, v7⟩ := h7
  obtain ⟨n8, rfl, g8⟩ := of_sl of_Job c8 h8
  obtain ⟨n9, rfl, g9⟩ := of_sl of_Outcome c9 h9
  refine ⟨⟨n0, n1, n2, n3, n4, n5, n6, n7, n8, n9⟩, rfl, ?_⟩
  simp only [lTenant]
  exact ⟨g8, g9⟩
end
section
def shHouse : List Sh := [.i, .i, .l 1 shGram, .l 2 shStore, .l 10 shTenant]
theorem of_House (x : List C) (h : inShs shHouse x) : ∃ a : THouse, x = sHouse a ∧ lHouse a := by
  simp only [shHouse, inShs] at h
  obtain ⟨c0, r0, rfl, h0, c1, r1, rfl, h1, c2, r2, rfl, h2, c3, r3, rfl, h3, c4, r4, rfl, h4, rfl⟩ := h
  simp only [inSh] at h0
  obtain ⟨n0, rfl, v0⟩ := h0
  simp only [inSh] at h1
  obtain ⟨n1, rfl, v1⟩ := h1
  obtain ⟨n2, rfl, g2⟩ := of_sl of_Gram c2 h2
  obtain ⟨n3, rfl, g3⟩ := of_sl of_Store c3 h3
  obtain ⟨n4, rfl, g4⟩ := of_sl of_Tenant c4 h4
  refine ⟨⟨n0, n1, n2, n3, n4⟩, rfl, ?_⟩
  simp only [lHouse]
  exact ⟨g2, g3, g4⟩
end
section
open Go.ChangeShapes Go.WideShapes Go.ChangeAt Go.RowKit Go.Proofs.YthpgfalifhpcfaaGreat
theorem own_FnExactOutcomeOf : ownKnob Tryz.prog.godebug = none := by kernel_rfl
theorem laidOut_FnExactOutcomeOf : laidOutB Tryz.prog = true := by kernel_rfl
theorem lifted_FnExactOutcomeOf (os : Os) (started : os.Started) (H : Type) (enc : TypeId × Value → H) :
    ReturnsInHanded {} Tryz.checked os 3 .any (Rows.fnExactOutcomeOfSpec.pre6 enc Tryz.prog Tryz.f3 Rows.fnExactOutcomeOfRow.domain false) (Rows.fnExactOutcomeOfSpec.post enc Tryz.prog Tryz.f3 false true false false) := by
  refine returnsInHanded_of_change (C := Tryz.checked) own_FnExactOutcomeOf started (by kernel_rfl) Tryz.func3
    (ChangeSpec.witness6 (enc := enc) (C := Tryz.checked) false ⟨#[], #[.agg #[.int .i64 0, .int .i64 0, .slice none 0 0, .slice none 0 0, .slice none 0 0], .int .i64 0, .int .i64 0], []⟩ 8 (by kernel_rfl) (by kernel_rfl) (by kernel_rfl) (by kernel_rfl)) ?_
  intro W base args ds gs before hval0 hW hcnd _
  have hval : ∀ (j : Nat) t v, Tryz.f3.params[j]? = some t → args[j]? = some v → Value.okWide Tryz.prog W .any base t v := hval0
  have hW' := hW
  obtain ⟨p, q, hA0, hV, rfl, hfz, hnd⟩ := hW
  have hA : DataW.TrodAll enc Tryz.prog W 0 (fun _ => true) true Tryz.f3.params.toList args.toList ds p := hA0
  rw [Tryz.params3] at hA hval
  obtain ⟨v0, v1, v2, d0, d1, d2, p0, p1, p2, rfl, rfl, rfl, h0, h1, h2⟩ := trodAll_three hA
  obtain ⟨rfl, rfl⟩ := trodVars_none hV
  have hV0 : ∀ (W' : World) (sp : Nat → Bool), DataW.TrodVars enc Tryz.checked.prog W' sp Rows.fnExactOutcomeOfSpec.vars ([] : List (DataW H)) [] := fun _ _ => by first | rfl | trivial | exact ⟨rfl, rfl⟩ | exact ⟨_, rfl, rfl⟩
  have hk0 := h0
  have hs0 : shT Tryz.prog 12 26 = some shHouse := by kernel_rfl
  obtain ⟨row0, hc0, hr0⟩ := arg_st (lc := fun _ => none) Tryz.underlying26 hs0 (hval 0 26 v0 rfl rfl) h0
  obtain ⟨x0, rfl, hl0⟩ := of_House row0 hc0
  obtain ⟨a1, rfl, rfl, rfl, wa1⟩ := open_int Tryz.underlying3 (hval 1 3 v1 rfl rfl) h1
  obtain ⟨a2, rfl, rfl, rfl, wa2⟩ := open_int Tryz.underlying3 (hval 2 3 v2 rfl rfl) h2
  clear hA0 hval0
  simp only [List.append_nil] at hW'
  refine (below_of (h_law_OutcomeOf x0 hl0 a1 a2) (fun _ _ _ _ h => h.1) W [v0, .int .i64 a1, .int .i64 a2] (by simp [sHouse, aI, aS, A.ref, C.ref, refCs]) ⟨_, _, fz, fz, rfl, (add_fz _).symm, hr0, ⟨_, _, fz, fz, rfl, (add_fz _).symm, ⟨rfl, rfl⟩, ⟨_, _, fz, fz, rfl, (add_fz _).symm, ⟨rfl, rfl⟩, ⟨rfl, rfl⟩⟩⟩⟩ rfl).mono fun e W' ⟨he, hw⟩ => ?_
  subst he
  exact ⟨_, rfl, [d0, .lit (.int .i64 a1), .lit (.int .i64 a2)], [], _, [], _, [], by simpa using hW', trodAll_mk1 (shut_bool Tryz.underlying4 true), trodAll_mk3 (Below.trod laidOut_FnExactOutcomeOf (by kernel_rfl) (of_decide_eq_true (by kernel_rfl)) hk0 hw (fun x hx => by have := hW'.lt x (by simp [hx]); simpa using this)) (shut_int Tryz.underlying3 wa1) (shut_int Tryz.underlying3 wa2), hV0 _ _, hw.frame _, fun h => by cases h⟩
theorem jf0 : (Rows.fnExactOutcomeOfRow.wf (OpenSpec.ofChange Rows.fnExactOutcomeOfSpec)) = true := by kernel_rfl
theorem jf1 : (laidOutB Tryz.checked.prog) = true := by kernel_rfl
theorem jf2 : (mapsRowed Tryz.checked.prog) = true := by kernel_rfl
theorem jf3 : (Tryz.f3.params.all (Tryz.checked.prog.readableRec ·)) = true := by kernel_rfl
theorem jf4 : (namedTie Tryz.checked.prog Rows.fnExactOutcomeOfRow.named Rows.fnExactOutcomeOfSpec.vars) = true := by kernel_rfl
theorem jf5 : ((Rows.fnExactOutcomeOfRow.stops == [])) = true := by kernel_rfl
theorem jf6 : ((Tryz.checked.prog.stops == [])) = true := by kernel_rfl
theorem jf7 : ((Rows.fnExactOutcomeOfRow.knobs == [])) = true := by kernel_rfl
theorem jf8 : ((Tryz.checked.prog.stopKnobs == [])) = true := by kernel_rfl
theorem jf9 : ((Rows.fnExactOutcomeOfRow.inPlace == Tryz.checked.prog.inPlace 3)) = true := by kernel_rfl
theorem jf10 : ((Rows.fnExactOutcomeOfRow.unfollowed == Tryz.checked.prog.unfollowed 3)) = true := by kernel_rfl
theorem jf11 : ((Rows.fnExactOutcomeOfRow.recurses == Tryz.checked.prog.recurses 3)) = true := by kernel_rfl
theorem jf12 : ((Rows.fnExactOutcomeOfRow.named == Tryz.checked.prog.varsNamed 3)) = true := by kernel_rfl
theorem jf13 : ((Rows.fnExactOutcomeOfRow.maps == (Tryz.f3.params.toList ++ Rows.fnExactOutcomeOfSpec.plain.varTypes Tryz.checked.prog).any (Tryz.checked.prog.mapsRec ·))) = true := by kernel_rfl
theorem jf14 : ((Rows.fnExactOutcomeOfRow.ifaces == (Tryz.f3.params.toList ++ Rows.fnExactOutcomeOfSpec.plain.varTypes Tryz.checked.prog).any (Tryz.checked.prog.ifacesRec ·))) = true := by kernel_rfl
theorem jf15 : ((Rows.fnExactOutcomeOfRow.mapsOut == Tryz.checked.prog.mapsAmong Tryz.f3.resultTypes.toList)) = true := by kernel_rfl
theorem jf16 : ((Rows.fnExactOutcomeOfRow.loops == (Tryz.f3.params.toList ++ Rows.fnExactOutcomeOfSpec.plain.varTypes Tryz.checked.prog).any (Tryz.checked.prog.loopsFrom ·))) = true := by kernel_rfl
theorem jf17 : ((Rows.fnExactOutcomeOfRow.wideKeys == (Tryz.f3.params.toList ++ Rows.fnExactOutcomeOfSpec.plain.varTypes Tryz.checked.prog ++ Tryz.f3.resultTypes.toList).any (Tryz.checked.prog.wideKeysFrom ·))) = true := by kernel_rfl
theorem jf18 : (Rows.fnExactOutcomeOfSpec.vars.all (Tryz.checked.prog.varReadable ·)) = true := by kernel_rfl
theorem jf19 : (Tryz.f3.resultTypes.all (fun t => Tryz.checked.prog.readableRec t && decide (t < Tryz.checked.prog.types.size))) = true := by kernel_rfl
theorem jf20 : ((Rows.fnExactOutcomeOfRow.ifacesOut == Tryz.f3.resultTypes.toList.any (Tryz.checked.prog.ifacesRec ·))) = true := by kernel_rfl
theorem jf21 : ((Rows.fnExactOutcomeOfRow.loopsOut == Tryz.f3.resultTypes.toList.any (Tryz.checked.prog.loopsFrom ·))) = true := by kernel_rfl
theorem jf22 : ((Rows.fnExactOutcomeOfRow.plainKeys == Tryz.checked.prog.plainKeys)) = true := by kernel_rfl
theorem jf23 : (Rows.fnExactOutcomeOfRow.shortTexts.isNone) = true := by kernel_rfl
theorem jf24 : (Tryz.checked.prog.stopsHeard) = true := by kernel_rfl
theorem jf25 : (Tryz.checked.prog.mayEnter) = true := by kernel_rfl
theorem jf26 : ((Rows.fnExactOutcomeOfRow.lifted == Tryz.checked.prog.liftsFinal)) = true := by kernel_rfl
theorem jf27 : ((Tryz.checked.prog.make == some Rows.fnExactOutcomeOfRow.make)) = true := by kernel_rfl
theorem jf29 : ((Rows.fnExactOutcomeOfRow.pinned == Rows.fnExactOutcomeOfRow.pinnedBy)) = true := by kernel_rfl
theorem jf30 : ((Rows.fnExactOutcomeOfRow.veiled == (Tryz.f3.params.toList ++ Rows.fnExactOutcomeOfSpec.plain.varTypes Tryz.checked.prog ++ Tryz.f3.resultTypes.toList).any (Tryz.checked.prog.veiledRec ·))) = true := by kernel_rfl
theorem jf31 : (Rows.fnExactOutcomeOfRow.veiledFits Tryz.checked.prog Tryz.f3.params.toList (Tryz.f3.params.toList ++ Rows.fnExactOutcomeOfSpec.plain.varTypes Tryz.checked.prog ++ Tryz.f3.resultTypes.toList)) = true := by kernel_rfl
theorem jf : joinedFacts Tryz.checked.prog 3 Tryz.f3 Rows.fnExactOutcomeOfSpec Rows.fnExactOutcomeOfRow = true := by
  unfold joinedFacts
  simp only [Bool.and_eq_true]
  repeat' apply And.intro
  exact jf0
  exact jf1
  exact jf2
  exact jf3
  exact jf4
  exact jf5
  exact jf6
  exact jf7
  exact jf8
  exact jf9
  exact jf10
  exact jf11
  exact jf12
  exact jf13
  exact jf14
  exact jf15
  exact jf16
  exact jf17
  exact jf18
  exact jf19
  exact jf20
  exact jf21
  exact jf22
  exact jf23
  exact jf24
  exact jf25
  exact jf26
  exact jf27
  · kernel_rfl
  exact jf29
  exact jf30
  exact jf31
theorem holds_FnExactOutcomeOf : Rows.FnExactOutcomeOfSaid :=
  OpenClaim.holds_of_wide 3 Tryz.f3 rfl rfl rfl rfl rfl rfl rfl ⟨rfl, rfl, rfl, rfl, rfl⟩ rfl rfl rfl rfl rfl (by kernel_rfl) Tryz.func3 jf
    (of_decide_eq_true (by kernel_rfl)) (by unfold Func.isWrapper; first | (rw [if_pos (by decide +kernel)]; kernel_rfl) | (rw [if_neg (by decide +kernel)]; exact ⟨rfl, rfl⟩))
    (fun os started H enc _ => lifted_FnExactOutcomeOf os started H enc)
#print axioms holds_FnExactOutcomeOf
end
end Go.Am
namespace Go.Proofs.YthpgfalifhpcfaaGreat
theorem fnExactOutcomeOf_holds : Rows.FnExactOutcomeOfSaid := Go.Am.holds_FnExactOutcomeOf
end Go.Proofs.YthpgfalifhpcfaaGreat
