/- PROVED: a tenant's score: the same of the program and the reference -/
import Derived.Test.YtfobegppbaljpaaGreatScore2
import Derived.Test.YtfobegppbaljpaaGreatRows
import Derived.ProofKit
set_option linter.unusedVariables false
set_option linter.unusedSimpArgs false
namespace Go.Am
open Go.Proofs
set_option maxHeartbeats 4000000
set_option maxRecDepth 100000
attribute [-simp] BitVec.toNat_or BitVec.toNat_and BitVec.toNat_ofInt
section
def k_244 : K := dc 0x411a05a040081005441442e50004405003043104079041040642640e583446010020400570575950acac558101550128251348a1d31404800070400450001833c23ce30d10e34334000c1401010000371410041410031c01450390410400031040790410402c22c0e4a3442810020400012412481811081c31c0006040141004039041040
def r_244 : Nat × List RV := (27, [.t 4])
theorem c_244 : codeIs PA 244 r_244 k_244 := by unfold codeIs; kernel_rfl
theorem h_szJobS (xs : List TJob) (left : Int) (hl : lL lJob xs) (h2 : 0 ≤ left) (h3 : left < 2 ^ 40) : CallsF Tryz.prog 244 [.one (.ar false 0 10 (xs.map sJob)), aI left] (aI (lft left (wL wJob xs))) := by
  refine Prun c_244 (by simp [r_244]) (by simp) ?_
  (conv in k_244 => reduce); unfold r_244
  have hlen := hl.1
  have hlw := wL_len wJob xs
  have w1 : IntKind.i64.wrap (left - xs.length) = left - xs.length := wrapI (by omega) (by omega)
  by_cases h1 : left - (xs.length : Int) < 0
  · rw [lft_neg (by omega)]
    simp [w1, h1]
  simp [w1, h1]
  refine awp_loop (fun n σ => ∃ i : Nat, i ≤ xs.length ∧ n = xs.length - i ∧ (wL wJob (xs.take i) : Int) - i ≤ left - xs.length ∧ σ = ⟨[(0, .one (.ar false 0 10 (xs.map sJob))), (1, aI (left - xs.length - ((wL wJob (xs.take i) : Int) - i))), (5, aI i)], []⟩) (xs.length) ⟨0, by simp [wL]; omega⟩ ?_
  rintro n σ ⟨i, hi, rfl, hle, rfl⟩
  have hge := wL_len wJob (xs.take i)
  rw [List.length_take, Nat.min_eq_left hi] at hge
  by_cases h : i < xs.length
  · have hst := wL_take wJob h
    have hle2 := wL_take_le wJob xs (i + 1)
    have hlen2 := wL_len wJob (xs.drop (i + 1))
    have happ := wL_append wJob (xs.take (i + 1)) (xs.drop (i + 1))
    rw [List.take_append_drop] at happ
    rw [List.length_drop] at hlen2
    simp [h, sJob]
    refine callG_F (h_szJob xs[i] _ (hl.2 i h) (by omega) (by omega)) (by simp) ?_
    generalize hv : left - (xs.length : Int) - ((wL wJob (xs.take i) : Int) - i) = v at *
    by_cases h4 : v < (wJob xs[i] : Int)
    · simp only [lft_neg h4]
      rw [lft_neg (by omega)]
      simp
    · have e : lft v (wJob xs[i]) = v - wJob xs[i] := lft_pos (by omega)
      have n1 : ¬ v - (wJob xs[i] : Int) < 0 := by omega
      simp [e, n1]
      refine ⟨xs.length - (i + 1), by omega, i + 1, by omega, rfl, by omega, ?_⟩
      rw [wrapI (by omega) (by omega)]
      simp; omega
  · have : i = xs.length := by omega
    subst this
    rw [List.take_length] at hle
    rw [lft_pos (by omega)]
    simp
    omega
end
section
def k_277 : K := dc 0x410c04c0400810031040790410402c22c0e4a3442810020400012412481411081de1c600108608218504018100403904200352c202040
def r_277 : Nat × List RV := (13, [.t 4])
theorem c_277 : codeIs PA 277 r_277 k_277 := by unfold codeIs; kernel_rfl
theorem h_szOutcome (a : TOutcome) (left : Int) (h : lOutcome a) (h2 : 0 ≤ left) (h3 : left < 2 ^ 40) : CallsF Tryz.prog 277 [.agg (sOutcome a), aI left] (aI (lft left (wOutcome a))) := by
  refine Prun c_277 (by simp [r_277]) (by simp) ?_
  (conv in k_277 => reduce); unfold r_277
  simp only [lOutcome] at h
  simp only [wOutcome]
  have hl0 := h
  simp [sOutcome]
  have ww0 : IntKind.i64.wrap (left - (a.text.size : Int)) = left - a.text.size := wrapI (by omega) (by omega)
  by_cases n0 : left - (a.text.size : Int) < 0
  case pos => simp [ww0, n0]; try rw [lft_neg (by omega)]
  simp [ww0, n0]
  try rw [lft_pos (by omega)]
  try omega
end
section
def k_245 : K := dc 0x411a05a040081005441442e50004405003043104079041040642640e583446010020400570575950adac55810155010c25134831d31404800070400450001833c23ce30d10e34334000c1401010000371410041410031c01450390410400031040790410402c22c0e4a3442810020400012412481811081c31c0006040141004039041040
def r_245 : Nat × List RV := (27, [.t 4])
theorem c_245 : codeIs PA 245 r_245 k_245 := by unfold codeIs; kernel_rfl
theorem h_szOutcomeS (xs : List TOutcome) (left : Int) (hl : lL lOutcome xs) (h2 : 0 ≤ left) (h3 : left < 2 ^ 40) : CallsF Tryz.prog 245 [.one (.ar false 0 3 (xs.map sOutcome)), aI left] (aI (lft left (wL wOutcome xs))) := by
  refine Prun c_245 (by simp [r_245]) (by simp) ?_
  (conv in k_245 => reduce); unfold r_245
  have hlen := hl.1
  have hlw := wL_len wOutcome xs
  have w1 : IntKind.i64.wrap (left - xs.length) = left - xs.length := wrapI (by omega) (by omega)
  by_cases h1 : left - (xs.length : Int) < 0
  · rw [lft_neg (by omega)]
    simp [w1, h1]
  simp [w1, h1]
  refine awp_loop (fun n σ => ∃ i : Nat, i ≤ xs.length ∧ n = xs.length - i ∧ (wL wOutcome (xs.take i) : Int) - i ≤ left - xs.length ∧ σ = ⟨[(0, .one (.ar false 0 3 (xs.map sOutcome))), (1, aI (left - xs.length - ((wL wOutcome (xs.take i) : Int) - i))), (5, aI i)], []⟩) (xs.length) ⟨0, by simp [wL]; omega⟩ ?_
  rintro n σ ⟨i, hi, rfl, hle, rfl⟩
  have hge := wL_len wOutcome (xs.take i)
  rw [List.length_take, Nat.min_eq_left hi] at hge
  by_cases h : i < xs.length
  · have hst := wL_take wOutcome h
    have hle2 := wL_take_le wOutcome xs (i + 1)
    have hlen2 := wL_len wOutcome (xs.drop (i + 1))
    have happ := wL_append wOutcome (xs.take (i + 1)) (xs.drop (i + 1))
    rw [List.take_append_drop] at happ
    rw [List.length_drop] at hlen2
    simp [h, sOutcome]
    refine callG_F (h_szOutcome xs[i] _ (hl.2 i h) (by omega) (by omega)) (by simp) ?_
    generalize hv : left - (xs.length : Int) - ((wL wOutcome (xs.take i) : Int) - i) = v at *
    by_cases h4 : v < (wOutcome xs[i] : Int)
    · simp only [lft_neg h4]
      rw [lft_neg (by omega)]
      simp
    · have e : lft v (wOutcome xs[i]) = v - wOutcome xs[i] := lft_pos (by omega)
      have n1 : ¬ v - (wOutcome xs[i] : Int) < 0 := by omega
      simp [e, n1]
      refine ⟨xs.length - (i + 1), by omega, i + 1, by omega, rfl, by omega, ?_⟩
      rw [wrapI (by omega) (by omega)]
      simp; omega
  · have : i = xs.length := by omega
    subst this
    rw [List.take_length] at hle
    rw [lft_pos (by omega)]
    simp
    omega
end
section
def k_191 : K := dc 0x4111051040081003104079041040402400e4f3443c100204000138138d30236b14d04030b00108b0891850400c4101e4104100a08a03924d1090400810000480481c608cac51c100614004214220614100403904200afaa202040
def r_191 : Nat × List RV := (18, [.t 4])
theorem c_191 : codeIs PA 191 r_191 k_191 := by unfold codeIs; kernel_rfl
theorem h_szTenant (a : TTenant) (left : Int) (h : lTenant a) (h2 : 0 ≤ left) (h3 : left < 2 ^ 40) : CallsF Tryz.prog 191 [.agg (sTenant a), aI left] (aI (lft left (wTenant a))) := by
  refine Prun c_191 (by simp [r_191]) (by simp) ?_
  (conv in k_191 => reduce); unfold r_191
  simp only [lTenant] at h
  simp only [wTenant]
  obtain ⟨hl0, hl1⟩ := h
  simp [sTenant]
  refine callG_F (h_szJobS a.queue (left) hl0 (by omega) (by omega)) (by simp) ?_
  by_cases g0 : left < (wL wJob a.queue : Int)
  case pos => simp only [lft_neg g0]; simp; try rw [lft_neg (by omega)]
  simp only [lft_pos (show (wL wJob a.queue : Int) ≤ left by omega)]
  have n0 : ¬ left - (wL wJob a.queue : Int) < 0 := by omega
  simp [n0]
  refine callG_F (h_szOutcomeS a.out (left - (wL wJob a.queue : Int)) hl1 (by omega) (by omega)) (by simp) ?_
  by_cases g1 : left - (wL wJob a.queue : Int) < (wL wOutcome a.out : Int)
  case pos => simp only [lft_neg g1]; simp; try rw [lft_neg (by omega)]
  simp only [lft_pos (show (wL wOutcome a.out : Int) ≤ left - (wL wJob a.queue : Int) by omega)]
  have n1 : ¬ left - (wL wJob a.queue : Int) - (wL wOutcome a.out : Int) < 0 := by omega
  simp [n1]
  try rw [lft_pos (by omega)]
  try omega
end
section
def k_121 : K := dc 0x411a05a040081005441442e50004405003043104079041040642640e58344601002040057057595097a8558101550128251348a1d31404800070400450001833c23ce30d10e34334000c1401010000371410041410031c01450390410400031040790410402c22c0e4a3442810020400012412481811081c31c0006040141004039041040
def r_121 : Nat × List RV := (27, [.t 4])
theorem c_121 : codeIs PA 121 r_121 k_121 := by unfold codeIs; kernel_rfl
theorem h_szTenantS (xs : List TTenant) (left : Int) (hl : lL lTenant xs) (h2 : 0 ≤ left) (h3 : left < 2 ^ 40) : CallsF Tryz.prog 121 [.one (.ar false 0 10 (xs.map sTenant)), aI left] (aI (lft left (wL wTenant xs))) := by
  refine Prun c_121 (by simp [r_121]) (by simp) ?_
  (conv in k_121 => reduce); unfold r_121
  have hlen := hl.1
  have hlw := wL_len wTenant xs
  have w1 : IntKind.i64.wrap (left - xs.length) = left - xs.length := wrapI (by omega) (by omega)
  by_cases h1 : left - (xs.length : Int) < 0
  · rw [lft_neg (by omega)]
    simp [w1, h1]
  simp [w1, h1]
  refine awp_loop (fun n σ => ∃ i : Nat, i ≤ xs.length ∧ n = xs.length - i ∧ (wL wTenant (xs.take i) : Int) - i ≤ left - xs.length ∧ σ = ⟨[(0, .one (.ar false 0 10 (xs.map sTenant))), (1, aI (left - xs.length - ((wL wTenant (xs.take i) : Int) - i))), (5, aI i)], []⟩) (xs.length) ⟨0, by simp [wL]; omega⟩ ?_
  rintro n σ ⟨i, hi, rfl, hle, rfl⟩
  have hge := wL_len wTenant (xs.take i)
  rw [List.length_take, Nat.min_eq_left hi] at hge
  by_cases h : i < xs.length
  · have hst := wL_take wTenant h
    have hle2 := wL_take_le wTenant xs (i + 1)
    have hlen2 := wL_len wTenant (xs.drop (i + 1))
    have happ := wL_append wTenant (xs.take (i + 1)) (xs.drop (i + 1))
    rw [List.take_append_drop] at happ
    rw [List.length_drop] at hlen2
    simp [h, sTenant]
    refine callG_F (h_szTenant xs[i] _ (hl.2 i h) (by omega) (by omega)) (by simp) ?_
    generalize hv : left - (xs.length : Int) - ((wL wTenant (xs.take i) : Int) - i) = v at *
    by_cases h4 : v < (wTenant xs[i] : Int)
    · simp only [lft_neg h4]
      rw [lft_neg (by omega)]
      simp
    · have e : lft v (wTenant xs[i]) = v - wTenant xs[i] := lft_pos (by omega)
      have n1 : ¬ v - (wTenant xs[i] : Int) < 0 := by omega
      simp [e, n1]
      refine ⟨xs.length - (i + 1), by omega, i + 1, by omega, rfl, by omega, ?_⟩
      rw [wrapI (by omega) (by omega)]
      simp; omega
  · have : i = xs.length := by omega
    subst this
    rw [List.take_length] at hle
    rw [lft_pos (by omega)]
    simp
    omega
end
section
def k_50 : K := dc 0x1045c15c10020400c4101e4104101609603954d1150400810000540544d2091a454c1012440042442106141003104079041040402400e4f3443c100204000138138d30242914d04030b00108b0831850400c4101e4104100a08a03924d1090400810000480481c608fa451c1006140042142086141004039042005da8202040
def r_50 : Nat × List RV := (24, [.t 4])
theorem c_50 : codeIs PA 50 r_50 k_50 := by unfold codeIs; kernel_rfl
theorem h_szHouse (a : THouse) (left : Int) (h : lHouse a) (h2 : 0 ≤ left) (h3 : left < 2 ^ 40) : CallsF Tryz.prog 50 [.agg (sHouse a), aI left] (aI (lft left (wHouse a))) := by
  refine Prun c_50 (by simp [r_50]) (by simp) ?_
  (conv in k_50 => reduce); unfold r_50
  simp only [lHouse] at h
  simp only [wHouse]
  obtain ⟨hl0, hl1, hl2⟩ := h
  simp [sHouse]
  refine callG_F (h_szGramS a.grams (left) hl0 (by omega) (by omega)) (by simp) ?_
  by_cases g0 : left < (wL wGram a.grams : Int)
  case pos => simp only [lft_neg g0]; simp; try rw [lft_neg (by omega)]
  simp only [lft_pos (show (wL wGram a.grams : Int) ≤ left by omega)]
  have n0 : ¬ left - (wL wGram a.grams : Int) < 0 := by omega
  simp [n0]
  refine callG_F (h_szStoreS a.stores (left - (wL wGram a.grams : Int)) hl1 (by omega) (by omega)) (by simp) ?_
  by_cases g1 : left - (wL wGram a.grams : Int) < (wL wStore a.stores : Int)
  case pos => simp only [lft_neg g1]; simp; try rw [lft_neg (by omega)]
  simp only [lft_pos (show (wL wStore a.stores : Int) ≤ left - (wL wGram a.grams : Int) by omega)]
  have n1 : ¬ left - (wL wGram a.grams : Int) - (wL wStore a.stores : Int) < 0 := by omega
  simp [n1]
  refine callG_F (h_szTenantS a.tenants (left - (wL wGram a.grams : Int) - (wL wStore a.stores : Int)) hl2 (by omega) (by omega)) (by simp) ?_
  by_cases g2 : left - (wL wGram a.grams : Int) - (wL wStore a.stores : Int) < (wL wTenant a.tenants : Int)
  case pos => simp only [lft_neg g2]; simp; try rw [lft_neg (by omega)]
  simp only [lft_pos (show (wL wTenant a.tenants : Int) ≤ left - (wL wGram a.grams : Int) - (wL wStore a.stores : Int) by omega)]
  have n2 : ¬ left - (wL wGram a.grams : Int) - (wL wStore a.stores : Int) - (wL wTenant a.tenants : Int) < 0 := by omega
  simp [n2]
  try rw [lft_pos (by omega)]
  try omega
end
section
def k_136 : K := dc 0x40960560c0081004341342e4c00430400305454004bf153ce0475130501534800424914011d110040000f1003830090411400060cb08b2883442890c9000204004040000dc40c01040c00c7005100e410410000c70471860430430580599461431400040400816410fc041040
def r_136 : Nat × List RV := (23, [.t 2])
theorem c_136 : codeIs PA 136 r_136 k_136 := by unfold codeIs; kernel_rfl
theorem h_toIntSS (xs : List (List Int)) (hx : wL (wL w0) xs < 2 ^ 31) : CallsF Tryz.prog 136 [.one (.ar false 0 1 (xs.map sIS))] (.one (.ar true 25 1 (xs.map rIS))) := by
  refine Prun c_136 (by simp [r_136]) (by simp) ?_
  (conv in k_136 => reduce); unfold r_136
  have hlen := wL_len (wL w0) xs
  have hc : ((xs.length : Int) ≤ 4294967296) := by omega
  simp [hc]
  refine awp_loop (fun n σ => ∃ i : Nat, i ≤ xs.length ∧ n = xs.length - i ∧ σ = ⟨[(0, .one (.ar false 0 1 (xs.map sIS))), (3, .one (.vw 25 1 3 [] 0 xs.length)), (4, aI i)], [(3, ⟨25, 1, part rIS zIS xs i⟩)]⟩) (xs.length) ⟨0, by simp [part_zero, zIS]⟩ ?_
  rintro n σ ⟨i, hi, rfl, rfl⟩
  by_cases h : i < xs.length
  · have hw := wL_get (wL w0) xs i h
    have := part_set (r := rIS) (z := zIS) h
    simp [h, sIS]
    refine callG_F (h_toIntS xs[i] (by omega)) (by simp) ?_
    simp [h, part_get h, rIS, zIS]
    refine ⟨xs.length - (i + 1), by omega, i + 1, by omega, rfl, ?_⟩
    rw [wrapI (by omega) (by omega)]
    simp only [rIS, zIS] at this
    simp [rIS, zIS, this]
  · have : i = xs.length := by omega
    subst this
    simp [part_all]
end
section
def k_62 : K := dc 0x10258158300204010d04d0b930010c1000c15150012fc54f3811d44c18291534800424914011d110040000f1003830090411400060cb08b2883442890c9000204004040000dc40c01040c00c7005100e410410000c7047186059043058043aa51850c5000101002043a810fc041040
def r_62 : Nat × List RV := (23, [.t 2])
theorem c_62 : codeIs PA 62 r_62 k_62 := by unfold codeIs; kernel_rfl
theorem h_toIntSSS (xs : List (List (List Int))) (hx : wL (wL (wL w0)) xs < 2 ^ 31) : CallsF Tryz.prog 62 [.one (.ar false 0 1 (xs.map sISS))] (.one (.ar true 171 1 (xs.map rISS))) := by
  refine Prun c_62 (by simp [r_62]) (by simp) ?_
  (conv in k_62 => reduce); unfold r_62
  have hlen := wL_len (wL (wL w0)) xs
  have hc : ((xs.length : Int) ≤ 4294967296) := by omega
  simp [hc]
  refine awp_loop (fun n σ => ∃ i : Nat, i ≤ xs.length ∧ n = xs.length - i ∧ σ = ⟨[(0, .one (.ar false 0 1 (xs.map sISS))), (3, .one (.vw 171 1 3 [] 0 xs.length)), (4, aI i)], [(3, ⟨171, 1, part rISS zISS xs i⟩)]⟩) (xs.length) ⟨0, by simp [part_zero, zISS]⟩ ?_
  rintro n σ ⟨i, hi, rfl, rfl⟩
  by_cases h : i < xs.length
  · have hw := wL_get (wL (wL w0)) xs i h
    have := part_set (r := rISS) (z := zISS) h
    simp [h, sISS]
    refine callG_F (h_toIntSS xs[i] (by omega)) (by simp) ?_
    simp [h, part_get h, rISS, zISS]
    refine ⟨xs.length - (i + 1), by omega, i + 1, by omega, rfl, ?_⟩
    rw [wrapI (by omega) (by omega)]
    simp only [rISS, zISS] at this
    simp [rISS, zISS, this]
  · have : i = xs.length := by omega
    subst this
    simp [part_all]
end
section
def k_15 : K := dc 0x10808004bf080c10420810061c004bf070c01861415a8145100042101006141003043a810c105c4810400810ea043041712040058202040
def r_15 : Nat × List RV := (9, [.c 2 1 true])
theorem c_15 : codeIs PA 15 r_15 k_15 := by unfold codeIs; kernel_rfl
theorem h_toGram (a : TGram) (ha : wGram a < 2 ^ 31) : CallsF Tryz.prog 15 [.agg (sGram a)] (.agg (rGram a)) := by
  refine Prun c_15 (by simp [r_15]) (by simp) ?_
  (conv in k_15 => reduce); unfold r_15
  simp only [wGram] at ha
  simp [sGram]
  refine callG_F (h_toIntSSS a.parts (by omega)) (by simp) ?_
  simp [rGram]
end
section
def k_125 : K := dc 0x10258158300204010d04d0b930010c1000c15150012fc54f3811d44c13c54d20410924500474440100003c400e0c02410450001832c22ca20d10a2432400081001010000371030041030031c01440390410400031c11c61810ea04305805c9461431400040400817010fc041040
def r_125 : Nat × List RV := (23, [.t 2])
theorem c_125 : codeIs PA 125 r_125 k_125 := by unfold codeIs; kernel_rfl
theorem h_toGramS (xs : List TGram) (hx : wL wGram xs < 2 ^ 31) : CallsF Tryz.prog 125 [.one (.ar false 0 1 (xs.map sGram))] (.one (.ar true 28 1 (xs.map rGram))) := by
  refine Prun c_125 (by simp [r_125]) (by simp) ?_
  (conv in k_125 => reduce); unfold r_125
  have hlen := wL_len wGram xs
  have hc : ((xs.length : Int) ≤ 4294967296) := by omega
  simp [hc]
  refine awp_loop (fun n σ => ∃ i : Nat, i ≤ xs.length ∧ n = xs.length - i ∧ σ = ⟨[(0, .one (.ar false 0 1 (xs.map sGram))), (3, .one (.vw 28 1 3 [] 0 xs.length)), (4, aI i)], [(3, ⟨28, 1, part rGram zGram xs i⟩)]⟩) (xs.length) ⟨0, by simp [part_zero, zGram]⟩ ?_
  rintro n σ ⟨i, hi, rfl, rfl⟩
  by_cases h : i < xs.length
  · have hw := wL_get wGram xs i h
    have := part_set (r := rGram) (z := zGram) h
    simp [h, sGram]
    refine callG_F (h_toGram xs[i] (by omega)) (by simp) ?_
    simp [h, part_get h, rGram, zGram]
    refine ⟨xs.length - (i + 1), by omega, i + 1, by omega, rfl, ?_⟩
    rw [wrapI (by omega) (by omega)]
    simp only [rGram, zGram] at this
    simp [rGram, zGram, this]
  · have : i = xs.length := by omega
    subst this
    simp [part_all]
end
section
def k_71 : K := dc 0x10b08008bf0b0c108208100928004bf0a0c11892014052070010870411850401460012fc1830061440010840401840400c10c10c00000822294810400810c10c0000082229481002129202040
def r_71 : Nat × List RV := (12, [.c 2 2 true])
theorem c_71 : codeIs PA 71 r_71 k_71 := by unfold codeIs; kernel_rfl
theorem h_toConf (a : TConf) (ha : wConf a < 2 ^ 31) : CallsF Tryz.prog 71 [.agg (sConf a)] (.agg (rConf a)) := by
  refine Prun c_71 (by simp [r_71]) (by simp) ?_
  (conv in k_71 => reduce); unfold r_71
  simp only [wConf] at ha
  simp [sConf]
  refine callG_F (h_toIntS a.row (by omega)) (by simp) ?_
  simp [rConf]
end
section
def k_24 : K := dc 0x40960560c0081004341342e4c00430400305454008bf153ce08751305fa054d20420924500874440100003c400e0c02410450001832c22ca20d10a2432400081001010000371030041030031c01440390410400031c11c61810c10c00000a0088a651850c5000101002088a410fc041040
def r_24 : Nat × List RV := (23, [.t 2])
theorem c_24 : codeIs PA 24 r_24 k_24 := by unfold codeIs; kernel_rfl
theorem h_toConfS (xs : List TConf) (hx : wL wConf xs < 2 ^ 31) : CallsF Tryz.prog 24 [.one (.ar false 0 2 (xs.map sConf))] (.one (.ar true 112 2 (xs.map rConf))) := by
  refine Prun c_24 (by simp [r_24]) (by simp) ?_
  (conv in k_24 => reduce); unfold r_24
  have hlen := wL_len wConf xs
  have hc : ((xs.length : Int) ≤ 4294967296) := by omega
  simp [hc]
  refine awp_loop (fun n σ => ∃ i : Nat, i ≤ xs.length ∧ n = xs.length - i ∧ σ = ⟨[(0, .one (.ar false 0 2 (xs.map sConf))), (3, .one (.vw 112 2 3 [] 0 xs.length)), (4, aI i)], [(3, ⟨112, 2, part rConf zConf xs i⟩)]⟩) (xs.length) ⟨0, by simp [part_zero, zConf]⟩ ?_
  rintro n σ ⟨i, hi, rfl, rfl⟩
  by_cases h : i < xs.length
  · have hw := wL_get wConf xs i h
    have := part_set (r := rConf) (z := zConf) h
    simp [h, sConf]
    refine callG_F (h_toConf xs[i] (by omega)) (by simp) ?_
    simp [h, part_get h, rConf, zConf]
    refine ⟨xs.length - (i + 1), by omega, i + 1, by omega, rfl, ?_⟩
    rw [wrapI (by omega) (by omega)]
    simp only [rConf, zConf] at this
    simp [rConf, zConf, this]
  · have : i = xs.length := by omega
    subst this
    simp [part_all]
end
section
def k_145 : K := dc 0x43c20032fc3c304308204034e0012fc38308634c05814c2c00422c108614100928004bf0a0c11892000422010461010061c004bf070c01861416051440010840401850400c22290430000022290430c336a4810400822290430000022290430c336a48100326a202040
def r_145 : Nat × List RV := (16, [.c 2 3 true])
theorem c_145 : codeIs PA 145 r_145 k_145 := by unfold codeIs; kernel_rfl
theorem h_toLine (a : TLine) (ha : wLine a < 2 ^ 31) : CallsF Tryz.prog 145 [.agg (sLine a)] (.agg (rLine a)) := by
  refine Prun c_145 (by simp [r_145]) (by simp) ?_
  (conv in k_145 => reduce); unfold r_145
  simp only [wLine] at ha
  simp [sLine]
  refine callG_F (h_toConfS a.frm (by omega)) (by simp) ?_
  simp
  refine callG_F (h_toConfS a.too (by omega)) (by simp) ?_
  simp [rLine]
end
section
def k_70 : K := dc 0x10258158300204010d04d0b930010c1000c15150032fc54f3831d44c1a691534810c24914031d110040000f1003830090411400060cb08b2883442890c9000204004040000dc40c01040c00c7005100e410410000c7047186088a410c0000088a410c34280cdaa51850c50001010020cda810fc041040
def r_70 : Nat × List RV := (23, [.t 2])
theorem c_70 : codeIs PA 70 r_70 k_70 := by unfold codeIs; kernel_rfl
theorem h_toLineS (xs : List TLine) (hx : wL wLine xs < 2 ^ 31) : CallsF Tryz.prog 70 [.one (.ar false 0 3 (xs.map sLine))] (.one (.ar true 181 3 (xs.map rLine))) := by
  refine Prun c_70 (by simp [r_70]) (by simp) ?_
  (conv in k_70 => reduce); unfold r_70
  have hlen := wL_len wLine xs
  have hc : ((xs.length : Int) ≤ 4294967296) := by omega
  simp [hc]
  refine awp_loop (fun n σ => ∃ i : Nat, i ≤ xs.length ∧ n = xs.length - i ∧ σ = ⟨[(0, .one (.ar false 0 3 (xs.map sLine))), (3, .one (.vw 181 3 3 [] 0 xs.length)), (4, aI i)], [(3, ⟨181, 3, part rLine zLine xs i⟩)]⟩) (xs.length) ⟨0, by simp [part_zero, zLine]⟩ ?_
  rintro n σ ⟨i, hi, rfl, rfl⟩
  by_cases h : i < xs.length
  · have hw := wL_get wLine xs i h
    have := part_set (r := rLine) (z := zLine) h
    simp [h, sLine]
    refine callG_F (h_toLine xs[i] (by omega)) (by simp) ?_
    simp [h, part_get h, rLine, zLine]
    refine ⟨xs.length - (i + 1), by omega, i + 1, by omega, rfl, ?_⟩
    rw [wrapI (by omega) (by omega)]
    simp only [rLine, zLine] at this
    simp [rLine, zLine, this]
  · have : i = xs.length := by omega
    subst this
    simp [part_all]
end
section
def k_23 : K := dc 0x10b08008bf0b0c108208100928004bf0a0c11892017a81481c00421c104614100518004bf060c01851000421010061010030cda810c00000820e848104008336a043000002083a120400a4202040
def r_23 : Nat × List RV := (12, [.c 2 2 true])
theorem c_23 : codeIs PA 23 r_23 k_23 := by unfold codeIs; kernel_rfl
theorem h_toStore (a : TStore) (ha : wStore a < 2 ^ 31) : CallsF Tryz.prog 23 [.agg (sStore a)] (.agg (rStore a)) := by
  refine Prun c_23 (by simp [r_23]) (by simp) ?_
  (conv in k_23 => reduce); unfold r_23
  simp only [wStore] at ha
  simp [sStore]
  refine callG_F (h_toLineS a.lines (by omega)) (by simp) ?_
  simp [rStore]
end
section
def k_126 : K := dc 0x40960560c0081004341342e4c00430400305454008bf153ce0875130571534810824914021d110040000f1003830090411400060cb08b2883442890c9000204004040000dc40c01040c00c7005100e410410000c70471860cda810c00000a0083a251850c5000101002083a010fc041040
def r_126 : Nat × List RV := (23, [.t 2])
theorem c_126 : codeIs PA 126 r_126 k_126 := by unfold codeIs; kernel_rfl
theorem h_toStoreS (xs : List TStore) (hx : wL wStore xs < 2 ^ 31) : CallsF Tryz.prog 126 [.one (.ar false 0 2 (xs.map sStore))] (.one (.ar true 43 2 (xs.map rStore))) := by
  refine Prun c_126 (by simp [r_126]) (by simp) ?_
  (conv in k_126 => reduce); unfold r_126
  have hlen := wL_len wStore xs
  have hc : ((xs.length : Int) ≤ 4294967296) := by omega
  simp [hc]
  refine awp_loop (fun n σ => ∃ i : Nat, i ≤ xs.length ∧ n = xs.length - i ∧ σ = ⟨[(0, .one (.ar false 0 2 (xs.map sStore))), (3, .one (.vw 43 2 3 [] 0 xs.length)), (4, aI i)], [(3, ⟨43, 2, part rStore zStore xs i⟩)]⟩) (xs.length) ⟨0, by simp [part_zero, zStore]⟩ ?_
  rintro n σ ⟨i, hi, rfl, rfl⟩
  by_cases h : i < xs.length
  · have hw := wL_get wStore xs i h
    have := part_set (r := rStore) (z := zStore) h
    simp [h, sStore]
    refine callG_F (h_toStore xs[i] (by omega)) (by simp) ?_
    simp [h, part_get h, rStore, zStore]
    refine ⟨xs.length - (i + 1), by omega, i + 1, by omega, rfl, ?_⟩
    rw [wrapI (by omega) (by omega)]
    simp only [rStore, zStore] at this
    simp [rStore, zStore, this]
  · have : i = xs.length := by omega
    subst this
    simp [part_all]
end
section
def k_170 : K := dc 0x43420032fc3430430820402cc0012fc3030862ca00108a0421840402090012fc2430462070010870411840401460012fc1830061440010840401840400c00000000000000c37aa4810400800000000000000c37aa481003aea202040
def r_170 : Nat × List RV := (14, [.c 2 3 true])
theorem c_170 : codeIs PA 170 r_170 k_170 := by unfold codeIs; kernel_rfl
theorem h_toErr (a : TErr) (ha : wErr a < 2 ^ 31) : CallsF Tryz.prog 170 [.agg (sErr a)] (.agg (rErr a)) := by
  refine Prun c_170 (by simp [r_170]) (by simp) ?_
  (conv in k_170 => reduce); unfold r_170
  simp only [wErr] at ha
  simp [sErr, rErr]
end
section
def k_96 : K := dc 0x40960560c0081004341342e4c0043040030545400cbf153ce0c7513042a854d20430924500c74440100003c400e0c02410450001832c22ca20d10a2432400081001010000371030041030031c01440390410400031c11c61800000000000000d80deaa51850c50001010020dea810fc041040
def r_96 : Nat × List RV := (23, [.t 2])
theorem c_96 : codeIs PA 96 r_96 k_96 := by unfold codeIs; kernel_rfl
theorem h_toErrS (xs : List TErr) (hx : wL wErr xs < 2 ^ 31) : CallsF Tryz.prog 96 [.one (.ar false 0 3 (xs.map sErr))] (.one (.ar true 198 3 (xs.map rErr))) := by
  refine Prun c_96 (by simp [r_96]) (by simp) ?_
  (conv in k_96 => reduce); unfold r_96
  have hlen := wL_len wErr xs
  have hc : ((xs.length : Int) ≤ 4294967296) := by omega
  simp [hc]
  refine awp_loop (fun n σ => ∃ i : Nat, i ≤ xs.length ∧ n = xs.length - i ∧ σ = ⟨[(0, .one (.ar false 0 3 (xs.map sErr))), (3, .one (.vw 198 3 3 [] 0 xs.length)), (4, aI i)], [(3, ⟨198, 3, part rErr zErr xs i⟩)]⟩) (xs.length) ⟨0, by simp [part_zero, zErr]⟩ ?_
  rintro n σ ⟨i, hi, rfl, rfl⟩
  by_cases h : i < xs.length
  · have hw := wL_get wErr xs i h
    have := part_set (r := rErr) (z := zErr) h
    simp [h, sErr]
    refine callG_F (h_toErr xs[i] (by omega)) (by simp) ?_
    simp [h, part_get h, rErr, zErr]
    refine ⟨xs.length - (i + 1), by omega, i + 1, by omega, rfl, ?_⟩
    rw [wrapI (by omega) (by omega)]
    simp only [rErr, zErr] at this
    simp [rErr, zErr, this]
  · have : i = xs.length := by omega
    subst this
    simp [part_all]
end
section
def k_168 : K := dc 0x42820022fc2830420820402090012fc2430462070010870411840401460012fc1830061440010840401840400c000000000209da52041002000000000082769481002a2a202040
def r_168 : Nat × List RV := (11, [.c 2 2 true])
theorem c_168 : codeIs PA 168 r_168 k_168 := by unfold codeIs; kernel_rfl
theorem h_toSlot (a : TSlot) (ha : wSlot a < 2 ^ 31) : CallsF Tryz.prog 168 [.agg (sSlot a)] (.agg (rSlot a)) := by
  refine Prun c_168 (by simp [r_168]) (by simp) ?_
  (conv in k_168 => reduce); unfold r_168
  simp only [wSlot] at ha
  simp [sSlot, rSlot]
end
section
def k_94 : K := dc 0x10258158300204010d04d0b930010c1000c15150022fc54f3821d44c102a1534810824914021d110040000f1003830090411400060cb08b2883442890c9000204004040000dc40c01040c00c7005100e410410000c704718600000000009009da651850c500010100209da410fc041040
def r_94 : Nat × List RV := (23, [.t 2])
theorem c_94 : codeIs PA 94 r_94 k_94 := by unfold codeIs; kernel_rfl
theorem h_toSlotS (xs : List TSlot) (hx : wL wSlot xs < 2 ^ 31) : CallsF Tryz.prog 94 [.one (.ar false 0 2 (xs.map sSlot))] (.one (.ar true 133 2 (xs.map rSlot))) := by
  refine Prun c_94 (by simp [r_94]) (by simp) ?_
  (conv in k_94 => reduce); unfold r_94
  have hlen := wL_len wSlot xs
  have hc : ((xs.length : Int) ≤ 4294967296) := by omega
  simp [hc]
  refine awp_loop (fun n σ => ∃ i : Nat, i ≤ xs.length ∧ n = xs.length - i ∧ σ = ⟨[(0, .one (.ar false 0 2 (xs.map sSlot))), (3, .one (.vw 133 2 3 [] 0 xs.length)), (4, aI i)], [(3, ⟨133, 2, part rSlot zSlot xs i⟩)]⟩) (xs.length) ⟨0, by simp [part_zero, zSlot]⟩ ?_
  rintro n σ ⟨i, hi, rfl, rfl⟩
  by_cases h : i < xs.length
  · have hw := wL_get wSlot xs i h
    have := part_set (r := rSlot) (z := zSlot) h
    simp [h, sSlot]
    refine callG_F (h_toSlot xs[i] (by omega)) (by simp) ?_
    simp [h, part_get h, rSlot, zSlot]
    refine ⟨xs.length - (i + 1), by omega, i + 1, by omega, rfl, ?_⟩
    rw [wrapI (by omega) (by omega)]
    simp only [rSlot, zSlot] at this
    simp [rSlot, zSlot, this]
  · have : i = xs.length := by omega
    subst this
    simp [part_all]
end
section
def k_224 : K := dc 0x11408014bf140c11420810124c004bf130c419244140545000109004418504038f0012fc3c30c638d00108d0431840402cc0012fc3030862ca00108a0421840402090012fc2430462070010870411840401460012fc1830061440010840401840400c10c10c000000000000000000515ca9204100204304300000000000000000014572a4810054ab202040
def r_224 : Nat × List RV := (21, [.c 2 5 true])
theorem c_224 : codeIs PA 224 r_224 k_224 := by unfold codeIs; kernel_rfl
theorem h_toNode (a : TNode) (ha : wNode a < 2 ^ 31) : CallsF Tryz.prog 224 [.agg (sNode a)] (.agg (rNode a)) := by
  refine Prun c_224 (by simp [r_224]) (by simp) ?_
  (conv in k_224 => reduce); unfold r_224
  simp only [wNode] at ha
  simp [sNode]
  refine callG_F (h_toIntS a.kids (by omega)) (by simp) ?_
  simp [rNode]
end
section
def k_169 : K := dc 0x40960560c0081004341342e4c00430400305454014bf153ce147513078a854d20450924501474440100003c400e0c02410450001832c22ca20d10a2432400081001010000371030041030031c01440390410400031c11c61810c10c000000000000000000542815caa51850c500010100215ca810fc041040
def r_169 : Nat × List RV := (23, [.t 2])
theorem c_169 : codeIs PA 169 r_169 k_169 := by unfold codeIs; kernel_rfl
theorem h_toNodeS (xs : List TNode) (hx : wL wNode xs < 2 ^ 31) : CallsF Tryz.prog 169 [.one (.ar false 0 5 (xs.map sNode))] (.one (.ar true 196 5 (xs.map rNode))) := by
  refine Prun c_169 (by simp [r_169]) (by simp) ?_
  (conv in k_169 => reduce); unfold r_169
  have hlen := wL_len wNode xs
  have hc : ((xs.length : Int) ≤ 4294967296) := by omega
  simp [hc]
  refine awp_loop (fun n σ => ∃ i : Nat, i ≤ xs.length ∧ n = xs.length - i ∧ σ = ⟨[(0, .one (.ar false 0 5 (xs.map sNode))), (3, .one (.vw 196 5 3 [] 0 xs.length)), (4, aI i)], [(3, ⟨196, 5, part rNode zNode xs i⟩)]⟩) (xs.length) ⟨0, by simp [part_zero, zNode]⟩ ?_
  rintro n σ ⟨i, hi, rfl, rfl⟩
  by_cases h : i < xs.length
  · have hw := wL_get wNode xs i h
    have := part_set (r := rNode) (z := zNode) h
    simp [h, sNode]
    refine callG_F (h_toNode xs[i] (by omega)) (by simp) ?_
    simp [h, part_get h, rNode, zNode]
    refine ⟨xs.length - (i + 1), by omega, i + 1, by omega, rfl, ?_⟩
    rw [wrapI (by omega) (by omega)]
    simp only [rNode, zNode] at this
    simp [rNode, zNode, this]
  · have : i = xs.length := by omega
    subst this
    simp [part_all]
end
section
def k_95 : K := dc 0x42020012fc2030410820401870012fc1c3006185041a851440010840401850400c572a04304176848104008572a043041768481001568202040
def r_95 : Nat × List RV := (9, [.c 2 1 true])
theorem c_95 : codeIs PA 95 r_95 k_95 := by unfold codeIs; kernel_rfl
theorem h_toTree (a : TTree) (ha : wTree a < 2 ^ 31) : CallsF Tryz.prog 95 [.agg (sTree a)] (.agg (rTree a)) := by
  refine Prun c_95 (by simp [r_95]) (by simp) ?_
  (conv in k_95 => reduce); unfold r_95
  simp only [wTree] at ha
  simp [sTree]
  refine callG_F (h_toNodeS a.nodes (by omega)) (by simp) ?_
  simp [rTree]
end
section
def k_38 : K := dc 0x47020072fc70304708204069b0012fc6c3186699078a056580010980461850405970012fc5c3146595077a055540410940451850404930012fc4c3106491076a0545000109004418504038f0012fc3c30c638d00108d0431840402cc0012fc3030862ca00108a0421840402090012fc2430462070010870411840401460012fc1830061440010840401840400c37aa04315ca810c27690430000000000000000001c78284810400837aa04315ca810c27690430000000000000000001c7828481007628202040
def r_38 : Nat × List RV := (29, [.c 2 7 true])
theorem c_38 : codeIs PA 38 r_38 k_38 := by unfold codeIs; kernel_rfl
theorem h_toRun (a : TRun) (ha : wRun a < 2 ^ 31) : CallsF Tryz.prog 38 [.agg (sRun a)] (.agg (rRun a)) := by
  refine Prun c_38 (by simp [r_38]) (by simp) ?_
  (conv in k_38 => reduce); unfold r_38
  simp only [wRun] at ha
  simp [sRun]
  refine callG_F (h_toSlotS a.slots (by omega)) (by simp) ?_
  simp
  refine callG_F (h_toTree a.tree (by omega)) (by simp [rTree]) ?_
  simp [rTree]
  refine callG_F (h_toErrS a.errs (by omega)) (by simp) ?_
  simp [rRun]
end
section
def k_278 : K := dc 0x448200a2fc48304a0820404110072fc4430c640f06614f3811c23810c614100c34004bf0d0c218c2c14052ca00108a0421850402090012fc2430462070010870411840401460012fc1830061440010840401840400c37aa04315ca810c276904300000000000000000004304300000000028aee94810400837aa04315ca810c276904300000000000000000004304300000000028aee948100a4ac202040
def r_278 : Nat × List RV := (19, [.c 2 10 true])
theorem c_278 : codeIs PA 278 r_278 k_278 := by unfold codeIs; kernel_rfl
theorem h_toJob (a : TJob) (ha : wJob a < 2 ^ 31) : CallsF Tryz.prog 278 [.agg (sJob a)] (.agg (rJob a)) := by
  refine Prun c_278 (by simp [r_278]) (by simp) ?_
  (conv in k_278 => reduce); unfold r_278
  simp only [wJob] at ha
  simp [sJob]
  refine callG_F (h_toIntS a.input (by omega)) (by simp) ?_
  simp
  refine callG_F (h_toRun a.run (by omega)) (by simp [rRun]) ?_
  simp [rJob, rRun]
end
section
def k_249 : K := dc 0x10258158300204010d04d0b930010c1000c151500a2fc54f38a1d44c1bab15348128249140a1d110040000f1003830090411400060cb08b2883442890c9000204004040000dc40c01040c00c7005100e410410000c70471860dea810c572a04309da410c00000000000000000010c10c000000000aa292bba651850c50001010022bba410fc041040
def r_249 : Nat × List RV := (23, [.t 2])
theorem c_249 : codeIs PA 249 r_249 k_249 := by unfold codeIs; kernel_rfl
theorem h_toJobS (xs : List TJob) (hx : wL wJob xs < 2 ^ 31) : CallsF Tryz.prog 249 [.one (.ar false 0 10 (xs.map sJob))] (.one (.ar true 163 10 (xs.map rJob))) := by
  refine Prun c_249 (by simp [r_249]) (by simp) ?_
  (conv in k_249 => reduce); unfold r_249
  have hlen := wL_len wJob xs
  have hc : ((xs.length : Int) ≤ 4294967296) := by omega
  simp [hc]
  refine awp_loop (fun n σ => ∃ i : Nat, i ≤ xs.length ∧ n = xs.length - i ∧ σ = ⟨[(0, .one (.ar false 0 10 (xs.map sJob))), (3, .one (.vw 163 10 3 [] 0 xs.length)), (4, aI i)], [(3, ⟨163, 10, part rJob zJob xs i⟩)]⟩) (xs.length) ⟨0, by simp [part_zero, zJob]⟩ ?_
  rintro n σ ⟨i, hi, rfl, rfl⟩
  by_cases h : i < xs.length
  · have hw := wL_get wJob xs i h
    have := part_set (r := rJob) (z := zJob) h
    simp [h, sJob]
    refine callG_F (h_toJob xs[i] (by omega)) (by simp) ?_
    simp [h, part_get h, rJob, zJob]
    refine ⟨xs.length - (i + 1), by omega, i + 1, by omega, rfl, ?_⟩
    rw [wrapI (by omega) (by omega)]
    simp only [rJob, zJob] at this
    simp [rJob, zJob, this]
  · have : i = xs.length := by omega
    subst this
    simp [part_all]
end
section
def k_279 : K :=
 .seq (
  .reg none [⟨(some 1), none, .box 316 3 (.t 0)⟩,
    ⟨(some 2), none, .alc 235 3 [(.int .i64 (0)), (.int .i64 (0)), (.str ⟨#[]⟩)]⟩]) (
 .seq (
  .reg none [⟨(some 3), none, .alc 235 3 [(.int .i64 (0)), (.int .i64 (0)), (.str ⟨#[]⟩)]⟩]) (
 .seq (
  .reg none [⟨(some 4), none, .fad 0 (.t 1)⟩,
    ⟨(some 5), none, .ld 1 false (.t 4)⟩,
    ⟨(some 6), none, .fad 0 (.t 3)⟩,
    ⟨none, none, .st 1 false (.t 6) (.t 5)⟩]) (
 .seq (
  .reg none [⟨(some 7), none, .fad 1 (.t 1)⟩,
    ⟨(some 8), none, .ld 1 false (.t 7)⟩,
    ⟨(some 9), none, .fad 1 (.t 3)⟩,
    ⟨none, none, .st 1 false (.t 9) (.t 8)⟩]) (
 .seq (
  .reg none [⟨(some 10), none, .fad 2 (.t 1)⟩,
    ⟨(some 11), none, .ld 1 false (.t 10)⟩,
    ⟨(some 12), none, .fad 2 (.t 3)⟩,
    ⟨none, none, .st 1 false (.t 12) (.t 11)⟩]) (
 .seq (
  .reg none [⟨(some 13), none, .ld 3 true (.t 3)⟩,
    ⟨none, none, .st 3 false (.t 2) (.t 13)⟩]) (
 .ret))))))
def r_279 : Nat × List RV := (14, [.c 2 3 true])
theorem c_279 : codeIs PA 279 r_279 k_279 := by unfold codeIs; kernel_rfl
theorem h_toOutcome (a : TOutcome) (ha : wOutcome a < 2 ^ 31) : CallsF Tryz.prog 279 [.agg (sOutcome a)] (.agg (rOutcome a)) := by
  refine Prun c_279 (by simp [r_279]) (by simp) ?_
  unfold k_279 r_279
  simp only [wOutcome] at ha
  simp [sOutcome, rOutcome]
end
section
def k_250 : K :=
 .seq (
  .reg none [⟨(some 2), none, .asn (.c (.ar true 235 3 []))⟩]) (
 .seq (
  .reg none [⟨(some 5), none, .mv (.t 0)⟩,
    ⟨(some 6), none, .len (.t 5)⟩,
    ⟨(some 7), none, .mks 235 3 32 [(.int .i64 (0)), (.int .i64 (0)), (.str ⟨#[]⟩)] (.t 6) (.t 6)⟩,
    ⟨(some 3), none, .asn (.t 7)⟩]) (
 .seq (
  .seq (
   .reg none [⟨(some 4), none, .asn (.c (.int .i64 (0)))⟩]) (
  .block 0 (
   .loop (some ([0, 3, 4], [0, 3, 4, 1000])) (
    .seq (
     .seq (
      .reg none [⟨(some 8), none, .mv (.t 4)⟩,
        ⟨(some 9), none, .mv (.t 0)⟩,
        ⟨(some 10), none, .len (.t 9)⟩,
        ⟨(some 11), none, .bin .lss (.t 8) (.t 10)⟩]) (
     .cond (.t 11) (
      .skip) (
      .exit 0))) (
    .seq (
     .block 1 (
      .reg none [⟨(some 14), none, .mv (.t 3)⟩,
        ⟨(some 15), none, .mv (.t 4)⟩,
        ⟨(some 16), none, .mv (.t 0)⟩,
        ⟨(some 17), none, .mv (.t 4)⟩,
        ⟨(some 18), none, .iad 3 (.t 16) (.t 17)⟩,
        ⟨(some 19), none, .ld 3 true (.t 18)⟩,
        ⟨(some 20), none, .call 279 [(.t 19)]⟩,
        ⟨(some 21), none, .iad 3 (.t 14) (.t 15)⟩,
        ⟨none, none, .st 3 false (.t 21) (.t 20)⟩])) (
    .reg none [⟨(some 12), none, .mv (.t 4)⟩,
      ⟨(some 13), none, .bin .add (.t 12) (.c (.int .i64 (1)))⟩,
      ⟨(some 4), none, .asn (.t 13)⟩])))))) (
 .seq (
  .reg none [⟨(some 22), none, .mv (.t 3)⟩,
    ⟨(some 2), none, .asn (.t 22)⟩]) (
 .ret))))
def r_250 : Nat × List RV := (23, [.t 2])
theorem c_250 : codeIs PA 250 r_250 k_250 := by unfold codeIs; kernel_rfl
theorem h_toOutcomeS (xs : List TOutcome) (hx : wL wOutcome xs < 2 ^ 31) : CallsF Tryz.prog 250 [.one (.ar false 0 3 (xs.map sOutcome))] (.one (.ar true 235 3 (xs.map rOutcome))) := by
  refine Prun c_250 (by simp [r_250]) (by simp) ?_
  unfold k_250 r_250
  have hlen := wL_len wOutcome xs
  have hc : ((xs.length : Int) ≤ 4294967296) := by omega
  simp [hc]
  refine awp_loop (fun n σ => ∃ i : Nat, i ≤ xs.length ∧ n = xs.length - i ∧ σ = ⟨[(0, .one (.ar false 0 3 (xs.map sOutcome))), (3, .one (.vw 235 3 3 [] 0 xs.length)), (4, aI i)], [(3, ⟨235, 3, part rOutcome zOutcome xs i⟩)]⟩) (xs.length) ⟨0, by simp [part_zero, zOutcome]⟩ ?_
  rintro n σ ⟨i, hi, rfl, rfl⟩
  by_cases h : i < xs.length
  · have hw := wL_get wOutcome xs i h
    have := part_set (r := rOutcome) (z := zOutcome) h
    simp [h, sOutcome]
    refine callG_F (h_toOutcome xs[i] (by omega)) (by simp) ?_
    simp [h, part_get h, rOutcome, zOutcome]
    refine ⟨xs.length - (i + 1), by omega, i + 1, by omega, rfl, ?_⟩
    rw [wrapI (by omega) (by omega)]
    simp only [rOutcome, zOutcome] at this
    simp [rOutcome, zOutcome, this]
  · have : i = xs.length := by omega
    subst this
    simp [part_all]
end
section
def k_198 : K := dc 0x490200a2fc90304a0820408a30012fc8c32468a1052ac58600010a004918504079f0012fc7c320679d051ac575c00109c04818504069b0012fc6c31c66990010990471840405d80012fc6031865d60010960461840405150012fc5431465130010930451840404520012fc48310645000109004418404038f0012fc3c30c638d00108d0431840402cc0012fc3030862ca00108a0421840402090012fc2430462070010870411840401460012fc1830061440010840401840400c30eb0432bba410c000000000000000000000000000000000000a2b9a520410020c3ac10caee904300000000000000000000000000000000000028ae6948100afaa202040
def r_198 : Nat × List RV := (37, [.c 2 10 true])
theorem c_198 : codeIs PA 198 r_198 k_198 := by unfold codeIs; kernel_rfl
theorem h_toTenant (a : TTenant) (ha : wTenant a < 2 ^ 31) : CallsF Tryz.prog 198 [.agg (sTenant a)] (.agg (rTenant a)) := by
  refine Prun c_198 (by simp [r_198]) (by simp) ?_
  (conv in k_198 => reduce); unfold r_198
  simp only [wTenant] at ha
  simp [sTenant]
  refine callG_F (h_toJobS a.queue (by omega)) (by simp) ?_
  simp
  refine callG_F (h_toOutcomeS a.out (by omega)) (by simp) ?_
  simp [rTenant]
end
section
def k_127 : K := dc 0x40960560c0081004341342e4c00430400305454028bf153ce28751305ea854d204a0924502874440100003c400e0c02410450001832c22ca20d10a2432400081001010000371030041030031c01440390410400031c11c61830eb0432bba410c000000000000000000000000000000000000a2292b9a651850c50001010022b9a410fc041040
def r_127 : Nat × List RV := (23, [.t 2])
theorem c_127 : codeIs PA 127 r_127 k_127 := by unfold codeIs; kernel_rfl
theorem h_toTenantS (xs : List TTenant) (hx : wL wTenant xs < 2 ^ 31) : CallsF Tryz.prog 127 [.one (.ar false 0 10 (xs.map sTenant))] (.one (.ar true 161 10 (xs.map rTenant))) := by
  refine Prun c_127 (by simp [r_127]) (by simp) ?_
  (conv in k_127 => reduce); unfold r_127
  have hlen := wL_len wTenant xs
  have hc : ((xs.length : Int) ≤ 4294967296) := by omega
  simp [hc]
  refine awp_loop (fun n σ => ∃ i : Nat, i ≤ xs.length ∧ n = xs.length - i ∧ σ = ⟨[(0, .one (.ar false 0 10 (xs.map sTenant))), (3, .one (.vw 161 10 3 [] 0 xs.length)), (4, aI i)], [(3, ⟨161, 10, part rTenant zTenant xs i⟩)]⟩) (xs.length) ⟨0, by simp [part_zero, zTenant]⟩ ?_
  rintro n σ ⟨i, hi, rfl, rfl⟩
  by_cases h : i < xs.length
  · have hw := wL_get wTenant xs i h
    have := part_set (r := rTenant) (z := zTenant) h
    simp [h, sTenant]
    refine callG_F (h_toTenant xs[i] (by omega)) (by simp) ?_
    simp [h, part_get h, rTenant, zTenant]
    refine ⟨xs.length - (i + 1), by omega, i + 1, by omega, rfl, ?_⟩
    rw [wrapI (by omega) (by omega)]
    simp only [rTenant, zTenant] at this
    simp [rTenant, zTenant, this]
  · have : i = xs.length := by omega
    subst this
    simp [part_all]
end
section
def k_52 : K := dc 0x45820052fc5830450820405150012fc543106513057a454d20010920441850404110012fc4430c640f056a453ce00108e04318504030d0012fc34308630b055a452ca00108a0421850402090012fc2430462070010870411840401460012fc1830061440010840401840400cae69043083a010c17010c000000000516ca120410022b9a410c20e804305c043000000000145b28481005da8202040
def r_52 : Nat × List RV := (23, [.c 2 5 true])
theorem c_52 : codeIs PA 52 r_52 k_52 := by unfold codeIs; kernel_rfl
theorem h_toHouse (a : THouse) (ha : wHouse a < 2 ^ 31) : CallsF Tryz.prog 52 [.agg (sHouse a)] (.agg (rHouse a)) := by
  refine Prun c_52 (by simp [r_52]) (by simp) ?_
  (conv in k_52 => reduce); unfold r_52
  simp only [wHouse] at ha
  simp [sHouse]
  refine callG_F (h_toGramS a.grams (by omega)) (by simp) ?_
  simp
  refine callG_F (h_toStoreS a.stores (by omega)) (by simp) ?_
  simp
  refine callG_F (h_toTenantS a.tenants (by omega)) (by simp) ?_
  simp [rHouse]
end
section
def k_12 : K := dc 0x413b0410400c413a04104078279d25d71a087a0571b04ca056c204509a1c11421420410020c0240003104e810410190996173046060172000c1000216056554093a055410141c11421010131c014bf072b9a410c20e804305c043000000000145b284934813281520811421010064414503c24a81500403ce04ca053820450850400c413b041040342340e4c3443050020400052c12ca2422a814a140242045084040148000004ff904104013a042005da8202040
def r_12 : Nat × List RV := (31, [.t 4])
theorem c_12 : codeIs PA 12 r_12 k_12 := by unfold codeIs; kernel_rfl
theorem h_law_Score (a : THouse) (hla : lHouse a) (t : Int) : CallsF Tryz.prog 12 [.agg (sHouse a), aI t] (aB true) := by
  refine Prun c_12 (by simp [r_12]) (by simp) ?_
  (conv in k_12 => reduce); unfold r_12
  have hsz1 := h_szHouse a 1048576 hla (by omega) (by omega)
  simp [sHouse]
  refine callG_F hsz1 (by simp) ?_
  by_cases g1 : (1048576 : Int) < (wHouse a : Int)
  · simp [lft_neg g1]
  have e1 : lft 1048576 (wHouse a) = 1048576 - wHouse a := lft_pos (by omega)
  have n1 : ¬ (1048576 : Int) - wHouse a < 0 := by omega
  simp [e1, n1]
  have hta := h_toHouse a (by omega)
  have hea := h_eqHouse a (by omega)
  have hs := h_spec_Score a t (by omega) hla
  have hi := h_impl_Score a t (by omega) hla
  generalize scoreG a t = T at *
  first | refine callG_F hta (by simp) ?_ | refine callOG_F hta (by simp) ?_ | refine gcal_F hta (by simp) ?_ | refine callRG_F hta rfl rfl (by simp) (by simp) ?_ | refine ⟨_, by simp, hta, ?_⟩
  try simp [rHouse]
  first | refine callG_F hs (by simp) ?_ | refine callOG_F hs (by simp) ?_ | refine gcal_F hs (by simp) ?_ | refine callRG_F hs rfl rfl (by simp) (by simp) ?_ | refine ⟨_, by simp, hs, ?_⟩
  try simp [rHouse]
  first | refine callG_F hta (by simp) ?_ | refine callOG_F hta (by simp) ?_ | refine gcal_F hta (by simp) ?_ | refine callRG_F hta rfl rfl (by simp) (by simp) ?_ | refine ⟨_, by simp, hta, ?_⟩
  try simp [rHouse]
  first | refine callG_F hi (by simp) ?_ | refine callOG_F hi (by simp) ?_ | refine gcal_F hi (by simp) ?_ | refine callRG_F hi rfl rfl (by simp) (by simp) ?_ | refine ⟨_, by simp, hi, ?_⟩
  try simp [rHouse]
  first | refine callG_F hta (by simp) ?_ | refine callOG_F hta (by simp) ?_ | refine gcal_F hta (by simp) ?_ | refine callRG_F hta rfl rfl (by simp) (by simp) ?_ | refine ⟨_, by simp, hta, ?_⟩
  try simp [rHouse]
  first | refine callG_F hea (by simp) ?_ | refine callOG_F hea (by simp) ?_ | refine gcal_F hea (by simp) ?_ | refine callRG_F hea rfl rfl (by simp) (by simp) ?_ | refine ⟨_, by simp, hea, ?_⟩
  try simp [rHouse]
end
section
def shGram : List Sh := [.l 1 [.l 1 [.l 1 [.i]]]]
theorem of_Gram (x : List C) (h : inShs shGram x) : ∃ a : TGram, x = sGram a ∧ lGram a := by
  simp only [shGram, inShs] at h
  obtain ⟨c0, r0, rfl, h0, rfl⟩ := h
  obtain ⟨n0, rfl, g0⟩ := of_sl of_ISS c0 h0
  refine ⟨⟨n0⟩, rfl, ?_⟩
  simp only [lGram]
  exact g0
end
section
def shConf : List Sh := [.i, .l 1 [.i]]
theorem of_Conf (x : List C) (h : inShs shConf x) : ∃ a : TConf, x = sConf a ∧ lConf a := by
  simp only [shConf, inShs] at h
  obtain ⟨c0, r0, rfl, h0, c1, r1, rfl, h1, rfl⟩ := h
  simp only [inSh] at h0
  obtain ⟨n0, rfl, v0⟩ := h0
  obtain ⟨n1, rfl, g1⟩ := of_sl of_int c1 h1
  refine ⟨⟨n0, n1⟩, rfl, ?_⟩
  simp only [lConf]
  exact g1
end
section
def shLine : List Sh := [.l 2 shConf, .i, .l 2 shConf]
theorem of_Line (x : List C) (h : inShs shLine x) : ∃ a : TLine, x = sLine a ∧ lLine a := by
  simp only [shLine, inShs] at h
  obtain ⟨c0, r0, rfl, h0, c1, r1, rfl, h1, c2, r2, rfl, h2, rfl⟩ := h
  obtain ⟨n0, rfl, g0⟩ := of_sl of_Conf c0 h0
  simp only [inSh] at h1
  obtain ⟨n1, rfl, v1⟩ := h1
  obtain ⟨n2, rfl, g2⟩ := of_sl of_Conf c2 h2
  refine ⟨⟨n0, n1, n2⟩, rfl, ?_⟩
  simp only [lLine]
  exact ⟨g0, g2⟩
end
section
def shStore : List Sh := [.i, .l 3 shLine]
theorem of_Store (x : List C) (h : inShs shStore x) : ∃ a : TStore, x = sStore a ∧ lStore a := by
  simp only [shStore, inShs] at h
  obtain ⟨c0, r0, rfl, h0, c1, r1, rfl, h1, rfl⟩ := h
  simp only [inSh] at h0
  obtain ⟨n0, rfl, v0⟩ := h0
  obtain ⟨n1, rfl, g1⟩ := of_sl of_Line c1 h1
  refine ⟨⟨n0, n1⟩, rfl, ?_⟩
  simp only [lStore]
  exact g1
end
section
def shErr : List Sh := [.i, .i, .i]
theorem of_Err (x : List C) (h : inShs shErr x) : ∃ a : TErr, x = sErr a ∧ lErr a := by
  simp only [shErr, inShs] at h
  obtain ⟨c0, r0, rfl, h0, c1, r1, rfl, h1, c2, r2, rfl, h2, rfl⟩ := h
  simp only [inSh] at h0
  obtain ⟨n0, rfl, v0⟩ := h0
  simp only [inSh] at h1
  obtain ⟨n1, rfl, v1⟩ := h1
  simp only [inSh] at h2
  obtain ⟨n2, rfl, v2⟩ := h2
  refine ⟨⟨n0, n1, n2⟩, rfl, ?_⟩
  simp only [lErr]
end
section
def shNode : List Sh := [.i, .i, .i, .i, .l 1 [.i]]
theorem of_Node (x : List C) (h : inShs shNode x) : ∃ a : TNode, x = sNode a ∧ lNode a := by
  simp only [shNode, inShs] at h
  obtain ⟨c0, r0, rfl, h0, c1, r1, rfl, h1, c2, r2, rfl, h2, c3, r3, rfl, h3, c4, r4, rfl, h4, rfl⟩ := h
  simp only [inSh] at h0
  obtain ⟨n0, rfl, v0⟩ := h0
  simp only [inSh] at h1
  obtain ⟨n1, rfl, v1⟩ := h1
  simp only [inSh] at h2
  obtain ⟨n2, rfl, v2⟩ := h2
  simp only [inSh] at h3
  obtain ⟨n3, rfl, v3⟩ := h3
  obtain ⟨n4, rfl, g4⟩ := of_sl of_int c4 h4
  refine ⟨⟨n0, n1, n2, n3, n4⟩, rfl, ?_⟩
  simp only [lNode]
  exact g4
end
section
def shSlot : List Sh := [.i, .i]
theorem of_Slot (x : List C) (h : inShs shSlot x) : ∃ a : TSlot, x = sSlot a ∧ lSlot a := by
  simp only [shSlot, inShs] at h
  obtain ⟨c0, r0, rfl, h0, c1, r1, rfl, h1, rfl⟩ := h
  simp only [inSh] at h0
  obtain ⟨n0, rfl, v0⟩ := h0
  simp only [inSh] at h1
  obtain ⟨n1, rfl, v1⟩ := h1
  refine ⟨⟨n0, n1⟩, rfl, ?_⟩
  simp only [lSlot]
end
section
def shJob : List Sh := [.i, .i, .l 1 [.i], .i, .i, .i, .i, .l 2 shSlot, .l 5 shNode, .l 3 shErr]
theorem of_Job (x : List C) (h : inShs shJob x) : ∃ a : TJob, x = sJob a ∧ lJob a := by
  simp only [shJob, inShs] at h
  obtain ⟨c0, r0, rfl, h0, c1, r1, rfl, h1, c2, r2, rfl, h2, c3, r3, rfl, h3, c4, r4, rfl, h4, c5, r5, rfl, h5, c6, r6, rfl, h6, c7, r7, rfl, h7, c8, r8, rfl, h8, c9, r9, rfl, h9, rfl⟩ := h
  simp only [inSh] at h0
  obtain ⟨n0, rfl, v0⟩ := h0
  simp only [inSh] at h1
  obtain ⟨n1, rfl, v1⟩ := h1
  obtain ⟨n2, rfl, g2⟩ := of_sl of_int c2 h2
  simp only [inSh] at h3
  obtain ⟨n3, rfl, v3⟩ := h3
  simp only [inSh] at h4
  obtain ⟨n4, rfl, v4⟩ := h4
  simp only [inSh] at h5
  obtain ⟨n5, rfl, v5⟩ := h5
  simp only [inSh] at h6
  obtain ⟨n6, rfl, v6⟩ := h6
  obtain ⟨n7, rfl, g7⟩ := of_sl of_Slot c7 h7
  obtain ⟨n8, rfl, g8⟩ := of_sl of_Node c8 h8
  obtain ⟨n9, rfl, g9⟩ := of_sl of_Err c9 h9
  refine ⟨⟨n0, n1, n2, ⟨n3, n4, n5, n6, n7, ⟨n8⟩, n9⟩⟩, rfl, ?_⟩
  simp only [lJob, lRun, lTree]
  exact ⟨g2, ⟨g7, g8, g9⟩⟩
end
section
def shOutcome : List Sh := [.i, .i, .s]
theorem of_Outcome (x : List C) (h : inShs shOutcome x) : ∃ a : TOutcome, x = sOutcome a ∧ lOutcome a := by
  simp only [shOutcome, inShs] at h
  obtain ⟨c0, r0, rfl, h0, c1, r1, rfl, h1, c2, r2, rfl, h2, rfl⟩ := h
  simp only [inSh] at h0
  obtain ⟨n0, rfl, v0⟩ := h0
  simp only [inSh] at h1
  obtain ⟨n1, rfl, v1⟩ := h1
  simp only [inSh] at h2
  obtain ⟨n2, rfl, g2⟩ := h2
  refine ⟨⟨n0, n1, n2⟩, rfl, ?_⟩
  simp only [lOutcome]
  exact g2
end
section
def shTenant : List Sh := [.i, .i, .i, .i, .i, .i, .i, .i, .l 10 shJob, .l 3 shOutcome]
theorem of_Tenant (x : List C) (h : inShs shTenant x) : ∃ a : TTenant, x = sTenant a ∧ lTenant a := by
  simp only [shTenant, inShs] at h
  obtain ⟨c0, r0, rfl, h0, c1, r1, rfl, h1, c2, r2, rfl, h2, c3, r3, rfl, h3, c4, r4, rfl, h4, c5, r5, rfl, h5, c6, r6, rfl, h6, c7, r7, rfl, h7, c8, r8, rfl, h8, c9, r9, rfl, h9, rfl⟩ := h
  simp only [inSh] at h0
  obtain ⟨n0, rfl, v0⟩ := h0
  simp only [inSh] at h1
  obtain ⟨n1, rfl, v1⟩ := h1
  simp only [inSh] at h2
  obtain ⟨n2, rfl, v2⟩ := h2
  simp only [inSh] at h3
  obtain ⟨n3, rfl, v3⟩ := h3
  simp only [inSh] at h4
  obtain ⟨n4, rfl, v4⟩ := h4
  simp only [inSh] at h5
  obtain ⟨n5, rfl, v5⟩ := h5
  simp only [inSh] at h6
  obtain ⟨n6, rfl, v6⟩ := h6
  simp only [inSh] at h7
  obtain ⟨n7, rfl, v7⟩ := h7
  obtain ⟨n8, rfl, g8⟩ := of_sl of_Job c8 h8
  obtain ⟨n9, rfl, g9⟩ := of_sl of_Outcome c9 h9
  refine ⟨⟨n0, n1, n2, n3, n4, n5, n6, n7, n8, n9⟩, rfl, ?_⟩
  simp only [lTenant]
  exact ⟨g8, g9⟩
end
section
def shHouse : List Sh := [.i, .i, .l 1 shGram, .l 2 shStore, .l 10 shTenant]
theorem of_House (x : List C) (h : inShs shHouse x) : ∃ a : THouse, x = sHouse a ∧ lHouse a := by
  simp only [shHouse, inShs] at h
  obtain ⟨c0, r0, rfl, h0, c1, r1, rfl, h1, c2, r2, rfl, h2, c3, r3, rfl, h3, c4, r4, rfl, h4, rfl⟩ := h
  simp only [inSh] at h0
  obtain ⟨n0, rfl, v0⟩ := h0
  simp only [inSh] at h1
  obtain ⟨n1, rfl, v1⟩ := h1
  obtain ⟨n2, rfl, g2⟩ := of_sl of_Gram c2 h2
  obtain ⟨n3, rfl, g3⟩ := of_sl of_Store c3 h3
  obtain ⟨n4, rfl, g4⟩ := of_sl of_Tenant c4 h4
  refine ⟨⟨n0, n1, n2, n3, n4⟩, rfl, ?_⟩
  simp only [lHouse]
  exact ⟨g2, g3, g4⟩
end
section
open Go.ChangeShapes Go.WideShapes Go.ChangeAt Go.RowKit Go.Proofs.YtfobegppbaljpaaGreat
theorem own_FnExactScore : ownKnob Tryz.prog.godebug = none := by kernel_rfl
theorem laidOut_FnExactScore : laidOutB Tryz.prog = true := by kernel_rfl
theorem lifted_FnExactScore (os : Os) (started : os.Started) (H : Type) (enc : TypeId × Value → H) :
    ReturnsInHanded {} Tryz.checked os 12 .any (Rows.fnExactScoreSpec.pre6 enc Tryz.prog Tryz.f12 Rows.fnExactScoreRow.domain false) (Rows.fnExactScoreSpec.post enc Tryz.prog Tryz.f12 false true false false) := by
  refine returnsInHanded_of_change (C := Tryz.checked) own_FnExactScore started (by kernel_rfl) Tryz.func12
    (ChangeSpec.witness6 (enc := enc) (C := Tryz.checked) false ⟨#[], #[.agg #[.int .i64 0, .int .i64 0, .slice none 0 0, .slice none 0 0, .slice none 0 0], .int .i64 0], []⟩ 8 (by kernel_rfl) (by kernel_rfl) (by kernel_rfl) (by kernel_rfl)) ?_
  intro W base args ds gs before hval0 hW hcnd _
  have hval : ∀ (j : Nat) t v, Tryz.f12.params[j]? = some t → args[j]? = some v → Value.okWide Tryz.prog W .any base t v := hval0
  have hW' := hW
  obtain ⟨p, q, hA0, hV, rfl, hfz, hnd⟩ := hW
  have hA : DataW.TrodAll enc Tryz.prog W 0 (fun _ => true) true Tryz.f12.params.toList args.toList ds p := hA0
  rw [Tryz.params12] at hA hval
  obtain ⟨v0, v1, d0, d1, p0, p1, rfl, rfl, rfl, h0, h1⟩ := trodAll_two hA
  obtain ⟨rfl, rfl⟩ := trodVars_none hV
  have hV0 : ∀ (W' : World) (sp : Nat → Bool), DataW.TrodVars enc Tryz.checked.prog W' sp Rows.fnExactScoreSpec.vars ([] : List (DataW H)) [] := fun _ _ => by first | rfl | trivial | exact ⟨rfl, rfl⟩ | exact ⟨_, rfl, rfl⟩
  have hk0 := h0
  have hs0 : shT Tryz.prog 12 94 = some shHouse := by kernel_rfl
  obtain ⟨row0, hc0, hr0⟩ := arg_st (lc := fun _ => none) Tryz.underlying94 hs0 (hval 0 94 v0 rfl rfl) h0
  obtain ⟨x0, rfl, hl0⟩ := of_House row0 hc0
  obtain ⟨a1, rfl, rfl, rfl, wa1⟩ := open_int Tryz.underlying3 (hval 1 3 v1 rfl rfl) h1
  clear hA0 hval0
  simp only [List.append_nil] at hW'
  refine (below_of (h_law_Score x0 hl0 a1) (fun _ _ _ _ h => h.1) W [v0, .int .i64 a1] (by simp [sHouse, aI, aS, A.ref, C.ref, refCs]) ⟨_, _, fz, fz, rfl, (add_fz _).symm, hr0, ⟨_, _, fz, fz, rfl, (add_fz _).symm, ⟨rfl, rfl⟩, ⟨rfl, rfl⟩⟩⟩ rfl).mono fun e W' ⟨he, hw⟩ => ?_
  subst he
  exact ⟨_, rfl, [d0, .lit (.int .i64 a1)], [], _, [], _, [], by simpa using hW', trodAll_mk1 (shut_bool Tryz.underlying4 true), trodAll_mk2 (Below.trod laidOut_FnExactScore (by kernel_rfl) (of_decide_eq_true (by kernel_rfl)) hk0 hw (fun x hx => by have := hW'.lt x (by simp [hx]); simpa using this)) (shut_int Tryz.underlying3 wa1), hV0 _ _, hw.frame _, fun h => by cases h⟩
theorem jf0 : (Rows.fnExactScoreRow.wf (OpenSpec.ofChange Rows.fnExactScoreSpec)) = true := by kernel_rfl
theorem jf1 : (laidOutB Tryz.checked.prog) = true := by kernel_rfl
theorem jf2 : (mapsRowed Tryz.checked.prog) = true := by kernel_rfl
theorem jf3 : (Tryz.f12.params.all (Tryz.checked.prog.readableRec ·)) = true := by kernel_rfl
theorem jf4 : (namedTie Tryz.checked.prog Rows.fnExactScoreRow.named Rows.fnExactScoreSpec.vars) = true := by kernel_rfl
theorem jf5 : ((Rows.fnExactScoreRow.stops == [])) = true := by kernel_rfl
theorem jf6 : ((Tryz.checked.prog.stops == [])) = true := by kernel_rfl
theorem jf7 : ((Rows.fnExactScoreRow.knobs == [])) = true := by kernel_rfl
theorem jf8 : ((Tryz.checked.prog.stopKnobs == [])) = true := by kernel_rfl
theorem jf9 : ((Rows.fnExactScoreRow.inPlace == Tryz.checked.prog.inPlace 12)) = true := by kernel_rfl
theorem jf10 : ((Rows.fnExactScoreRow.unfollowed == Tryz.checked.prog.unfollowed 12)) = true := by kernel_rfl
theorem jf11 : ((Rows.fnExactScoreRow.recurses == Tryz.checked.prog.recurses 12)) = true := by kernel_rfl
theorem jf12 : ((Rows.fnExactScoreRow.named == Tryz.checked.prog.varsNamed 12)) = true := by kernel_rfl
theorem jf13 : ((Rows.fnExactScoreRow.maps == (Tryz.f12.params.toList ++ Rows.fnExactScoreSpec.plain.varTypes Tryz.checked.prog).any (Tryz.checked.prog.mapsRec ·))) = true := by kernel_rfl
theorem jf14 : ((Rows.fnExactScoreRow.ifaces == (Tryz.f12.params.toList ++ Rows.fnExactScoreSpec.plain.varTypes Tryz.checked.prog).any (Tryz.checked.prog.ifacesRec ·))) = true := by kernel_rfl
theorem jf15 : ((Rows.fnExactScoreRow.mapsOut == Tryz.checked.prog.mapsAmong Tryz.f12.resultTypes.toList)) = true := by kernel_rfl
theorem jf16 : ((Rows.fnExactScoreRow.loops == (Tryz.f12.params.toList ++ Rows.fnExactScoreSpec.plain.varTypes Tryz.checked.prog).any (Tryz.checked.prog.loopsFrom ·))) = true := by kernel_rfl
theorem jf17 : ((Rows.fnExactScoreRow.wideKeys == (Tryz.f12.params.toList ++ Rows.fnExactScoreSpec.plain.varTypes Tryz.checked.prog ++ Tryz.f12.resultTypes.toList).any (Tryz.checked.prog.wideKeysFrom ·))) = true := by kernel_rfl
theorem jf18 : (Rows.fnExactScoreSpec.vars.all (Tryz.checked.prog.varReadable ·)) = true := by kernel_rfl
theorem jf19 : (Tryz.f12.resultTypes.all (fun t => Tryz.checked.prog.readableRec t && decide (t < Tryz.checked.prog.types.size))) = true := by kernel_rfl
theorem jf20 : ((Rows.fnExactScoreRow.ifacesOut == Tryz.f12.resultTypes.toList.any (Tryz.checked.prog.ifacesRec ·))) = true := by kernel_rfl
theorem jf21 : ((Rows.fnExactScoreRow.loopsOut == Tryz.f12.resultTypes.toList.any (Tryz.checked.prog.loopsFrom ·))) = true := by kernel_rfl
theorem jf22 : ((Rows.fnExactScoreRow.plainKeys == Tryz.checked.prog.plainKeys)) = true := by kernel_rfl
theorem jf23 : (Rows.fnExactScoreRow.shortTexts.isNone) = true := by kernel_rfl
theorem jf24 : (Tryz.checked.prog.stopsHeard) = true := by kernel_rfl
theorem jf25 : (Tryz.checked.prog.mayEnter) = true := by kernel_rfl
theorem jf26 : ((Rows.fnExactScoreRow.lifted == Tryz.checked.prog.liftsFinal)) = true := by kernel_rfl
theorem jf27 : ((Tryz.checked.prog.make == some Rows.fnExactScoreRow.make)) = true := by kernel_rfl
theorem jf29 : ((Rows.fnExactScoreRow.pinned == Rows.fnExactScoreRow.pinnedBy)) = true := by kernel_rfl
theorem jf30 : ((Rows.fnExactScoreRow.veiled == (Tryz.f12.params.toList ++ Rows.fnExactScoreSpec.plain.varTypes Tryz.checked.prog ++ Tryz.f12.resultTypes.toList).any (Tryz.checked.prog.veiledRec ·))) = true := by kernel_rfl
theorem jf31 : (Rows.fnExactScoreRow.veiledFits Tryz.checked.prog Tryz.f12.params.toList (Tryz.f12.params.toList ++ Rows.fnExactScoreSpec.plain.varTypes Tryz.checked.prog ++ Tryz.f12.resultTypes.toList)) = true := by kernel_rfl
theorem jf : joinedFacts Tryz.checked.prog 12 Tryz.f12 Rows.fnExactScoreSpec Rows.fnExactScoreRow = true := by
  unfold joinedFacts
  simp only [Bool.and_eq_true]
  repeat' apply And.intro
  exact jf0
  exact jf1
  exact jf2
  exact jf3
  exact jf4
  exact jf5
  exact jf6
  exact jf7
  exact jf8
  exact jf9
  exact jf10
  exact jf11
  exact jf12
  exact jf13
  exact jf14
  exact jf15
  exact jf16
  exact jf17
  exact jf18
  exact jf19
  exact jf20
  exact jf21
  exact jf22
  exact jf23
  exact jf24
  exact jf25
  exact jf26
  exact jf27
  · kernel_rfl
  exact jf29
  exact jf30
  exact jf31
theorem holds_FnExactScore : Rows.FnExactScoreSaid :=
  OpenClaim.holds_of_wide 12 Tryz.f12 rfl rfl rfl rfl rfl rfl rfl ⟨rfl, rfl, rfl, rfl, rfl⟩ rfl rfl rfl rfl rfl (by kernel_rfl) Tryz.func12 jf
    (of_decide_eq_true (by kernel_rfl)) (by unfold Func.isWrapper; first | (rw [if_pos (by decide +kernel)]; kernel_rfl) | (rw [if_neg (by decide +kernel)]; exact ⟨rfl, rfl⟩))
    (fun os started H enc _ => lifted_FnExactScore os started H enc)
#print axioms holds_FnExactScore
end
end Go.Am
namespace Go.Proofs.YtfobegppbaljpaaGreat
theorem fnExactScore_holds : Rows.FnExactScoreSaid := Go.Am.holds_FnExactScore
end Go.Proofs.YtfobegppbaljpaaGreat
