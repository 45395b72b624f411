/- Text 2 of 3 for FnExactFinish: codes of the functions that it reaches and their contracts over trees. No condition. -/
import Derived.Test.YtfcbminodkjklaaFinish1
set_option linter.unusedVariables false
set_option linter.unusedSimpArgs false
-- Finish2
namespace Go.Am
open Go.Proofs
set_option maxHeartbeats 4000000
set_option maxRecDepth 100000
theorem killRows_len {xs : List (List C)} {lo n : Nat} (h : lo + n ≤ xs.length) : (killRows xs lo n).length = xs.length := by
  simp [killRows]; omega
theorem drop_kill {xs : List (List C)} {lo n k : Nat} (h : lo + n ≤ xs.length) (hk : lo + n ≤ k) : (killRows xs lo n).drop k = xs.drop k := by
  unfold killRows
  have hP : (xs.take lo ++ ((xs.drop lo).take n).map (List.map deadC)).length = lo + n := by simp; omega
  rw [List.drop_append, List.drop_of_length_le (by omega), List.nil_append, hP, List.drop_drop]
  congr 1
  omega
-- 89 loop.example/g00485/spec.l14End
def k_spec_l14End : K :=
 .seq (
  .reg none [⟨(some 4), none, .box 25 10 (.t 0)⟩,
    ⟨(some 8), none, .alc 25 10 [(.int .i64 (0)), (.int .i64 (0)), (.int .i64 (0)), (.int .i64 (0)), (.int .i64 (0)), (.int .i64 (0)), (.int .i64 (0)), (.int .i64 (0)), (.ar true 133 10 []), (.ar true 102 3 [])]⟩]) (
 .seq (
  .reg none [⟨(some 11), none, .ld 10 true (.t 4)⟩,
    ⟨(some 12), none, .call 66 [(.t 11)]⟩,
    ⟨(some 9), none, .alc 25 10 [(.int .i64 (0)), (.int .i64 (0)), (.int .i64 (0)), (.int .i64 (0)), (.int .i64 (0)), (.int .i64 (0)), (.int .i64 (0)), (.int .i64 (0)), (.ar true 133 10 []), (.ar true 102 3 [])]⟩,
    ⟨none, none, .st 10 false (.t 9) (.t 12)⟩]) (
 .seq (
  .reg none [⟨(some 13), none, .fad 8 (.t 9)⟩,
    ⟨(some 14), none, .ld 1 false (.t 13)⟩,
    ⟨(some 15), none, .mv (.t 1)⟩,
    ⟨(some 16), none, .iad 10 (.t 14) (.t 15)⟩,
    ⟨(some 17), none, .fad 0 (.t 16)⟩,
    ⟨(some 18), none, .ld 1 false (.t 17)⟩,
    ⟨(some 10), none, .asn (.t 18)⟩]) (
 .seq (
  .drw none 0 [⟨(some 20), none, .fad 8 (.t 9)⟩,
    ⟨(some 21), none, .ld 1 false (.t 20)⟩,
    ⟨(some 22), none, .mv (.t 1)⟩,
    ⟨(some 23), none, .slc 10 (.t 21) none (some (.t 22))⟩,
    ⟨(some 25), none, .fad 8 (.t 9)⟩,
    ⟨(some 26), none, .ld 1 false (.t 25)⟩,
    ⟨(some 27), none, .mv (.t 1)⟩,
    ⟨(some 28), none, .bin .add (.t 27) (.c (.int .i64 (1)))⟩,
    ⟨(some 29), none, .slc 10 (.t 26) (some (.t 28)) none⟩,
    ⟨(some 19), none, .bls 133 10 false []⟩,
    ⟨(some 24), none, .app 133 10 144 false (.t 19) (.t 23)⟩,
    ⟨(some 30), none, .app 133 10 144 false (.t 24) (.t 29)⟩,
    ⟨(some 31), none, .fad 8 (.t 9)⟩,
    ⟨none, none, .st 1 false (.t 31) (.t 30)⟩]) (
 .seq (
  .reg none [⟨(some 32), none, .fad 9 (.t 9)⟩,
    ⟨(some 33), none, .ld 1 false (.t 32)⟩,
    ⟨(some 34), none, .mv (.t 10)⟩,
    ⟨(some 35), none, .mv (.t 2)⟩,
    ⟨(some 36), none, .mv (.t 3)⟩,
    ⟨(some 37), none, .bld false [(.int .i64 (0)), (.int .i64 (0)), (.str ⟨#[]⟩)] [(0, 1, (.t 34)), (1, 1, (.t 35)), (2, 1, (.t 36))]⟩,
    ⟨(some 38), none, .call 138 [(.t 33), (.t 37)]⟩,
    ⟨(some 39), none, .fad 9 (.t 9)⟩,
    ⟨none, none, .st 1 false (.t 39) (.t 38)⟩]) (
 .seq (
  .seq (
   .reg none [⟨(some 40), none, .fad 8 (.t 9)⟩,
     ⟨(some 41), none, .ld 1 false (.t 40)⟩,
     ⟨(some 42), none, .len (.t 41)⟩,
     ⟨(some 43), none, .bin .eql (.t 42) (.c (.int .i64 (0)))⟩]) (
  .cond (.t 43) (
   .reg none [⟨(some 44), none, .fad 4 (.t 9)⟩,
     ⟨none, none, .st 1 false (.t 44) (.c (.int .i64 (0)))⟩]) (
   .skip))) (
 .seq (
  .reg none [⟨(some 45), none, .ld 10 true (.t 9)⟩,
    ⟨none, none, .st 10 false (.t 8) (.t 45)⟩]) (
 .ret)))))))
def r_spec_l14End : Nat × List RV := (46, [.c 8 10 true])

theorem c_spec_l14End : cmpS PT PF PA (Try.prog.funcs[89]?) = some (r_spec_l14End.1, r_spec_l14End.2, stripK k_spec_l14End) := by kernel_rfl

theorem h_spec_l14End (t : TTenant) (i : Nat) (hi : i < t.queue.length) (code : Int) (text : ByteArray) (hw : wTenant t < 2 ^ 31) :
    CallsF Try.prog 89 [.agg (sTenant t), aI i, aI code, aS text] (.agg (rTenant (endT t i code text))) := by
  refine Prun c_spec_l14End (by simp [r_spec_l14End]) (by simp) ?_
  unfold k_spec_l14End r_spec_l14End
  have hk := h_spec_l14Copy t hw
  have hp := h_spec_l14Put t.out ⟨(t.queue.getD i default).ticket, code, text⟩ (by have := wL_len wOutcome t.out; simp only [wTenant] at hw; omega)
  have hq : t.queue.getD i default = t.queue[i] := by simp [List.getD, hi]
  simp only [endT]
  rw [hq] at hp ⊢
  obtain ⟨a0, a1, a2, a3, a4, a5, a6, d, qs, xs⟩ := t
  simp only [wTenant] at hw
  simp only at hi hp
  have hl8 := wL_len wJob qs
  simp only [sTenant, rTenant] at hk
  have w1 : IntKind.i64.wrap ((i : Int) + 1) = (i : Int) + 1 := wrapI (by omega) (by omega)
  rcases ej : qs[i] with ⟨j1, j2, j3, j4⟩
  rw [ej] at hp
  simp only at hp
  simp [sTenant]
  refine callG_F hk (by simp) ?_
  have hi1 : i ≤ qs.length := by omega
  have hi2 : i + 1 ≤ qs.length := by omega
  have hb1 : i ≤ 4294967296 := by omega
  have hb2 : i + (qs.length - (i + 1)) ≤ 4294967296 := by omega
  have hm : min i qs.length = i := Nat.min_eq_left hi1
  have hk1 : (killRows (List.map rJob qs) 0 i).length = qs.length := by rw [killRows_len (by simpa using hi1)]; simp
  have hk2 : (killRows (List.map rJob qs) 0 i).drop (i + 1) = (List.map rJob qs).drop (i + 1) := drop_kill (by simpa using hi1) (by omega)
  have hz : rJob ⟨j1, j2, j3, j4⟩ = (List.map rJob qs)[i]'(by simpa using hi) := by simp [ej]
  have hT : (List.drop (i + 1) (List.map rJob qs)).take (qs.length - (i + 1)) = List.drop (i + 1) (List.map rJob qs) := List.take_of_length_le (by simp)
  have hA : (List.take i (List.map rJob qs)).length = i := by simp [hm]
  have hB : (List.drop (i + 1) (List.map rJob qs)).length = qs.length - (i + 1) := by simp
  have hs1 : i + 1 + (qs.length - (i + 1)) ≤ qs.length := by omega
  have hI1 : (0 : Int) ≤ (i : Int) + 1 := by omega
  have hI2 : (i : Int) + 1 ≤ (qs.length : Int) := by omega
  have hI3 : ((qs.length : Int) - ((i : Int) + 1)).toNat = qs.length - (i + 1) := by omega
  cases hfA : affRows (List.take i (List.map rJob qs)) <;> cases hfB : affRows (List.drop (i + 1) (List.map rJob qs))
  all_goals
    simp [hi, ej, rJob, w1, hi1, hi2, hb1, hb2, hm, hk1, hk2, hT, hfA, hfB, hs1, hI1, hI2, hI3]
    simp only [sOutcome] at hp
    refine callG_F hp (by simp) ?_
    by_cases cq : qs.length = 1
    · have h0 : i = 0 := by omega
      subst h0
      simp [cq, rTenant, rOutcome, hT]
      exact List.eq_nil_of_length_eq_zero (by simp [cq])
    · have cN : ¬ ((i : Int) + ((qs.length - (i + 1) : Nat) : Int) = 0) := by omega
      simp [cq, cN, rTenant, rOutcome, hT, hm]
      exact List.take_of_length_le (by rw [List.length_append, hA, hB]; exact Nat.le_refl _)
-- 91 (*loop.example/g00485/impl.Tenant).end
def k_impl_Tenant_end : K :=
 .seq (
  .reg none [⟨(some 9), none, .mv (.t 0)⟩,
    ⟨(some 10), none, .nil (.t 9)⟩,
    ⟨(some 11), none, .fad 8 (.t 10)⟩,
    ⟨(some 12), none, .ld 1 false (.t 11)⟩,
    ⟨(some 13), none, .mv (.t 1)⟩,
    ⟨(some 14), none, .iad 10 (.t 12) (.t 13)⟩,
    ⟨(some 15), none, .fad 0 (.t 14)⟩,
    ⟨(some 16), none, .ld 1 false (.t 15)⟩,
    ⟨(some 8), none, .asn (.t 16)⟩]) (
 .seq (
  .reg none [⟨(some 17), none, .mv (.t 0)⟩,
    ⟨(some 18), none, .mv (.t 0)⟩,
    ⟨(some 19), none, .nil (.t 18)⟩,
    ⟨(some 20), none, .fad 8 (.t 19)⟩,
    ⟨(some 21), none, .ld 1 false (.t 20)⟩,
    ⟨(some 22), none, .mv (.t 1)⟩,
    ⟨(some 23), none, .mv (.t 1)⟩,
    ⟨(some 24), none, .bin .add (.t 23) (.c (.int .i64 (1)))⟩,
    ⟨(some 25), none, .callo 139 1 [(.t 21), (.t 22), (.t 24)]⟩,
    ⟨(some 26), none, .nil (.t 17)⟩,
    ⟨(some 27), none, .fad 8 (.t 26)⟩,
    ⟨none, none, .st 1 false (.t 27) (.t 25)⟩]) (
 .seq (
  .reg none [⟨(some 28), none, .mv (.t 0)⟩,
    ⟨(some 29), none, .mv (.t 8)⟩,
    ⟨(some 30), none, .mv (.t 2)⟩,
    ⟨(some 31), none, .mv (.t 3)⟩,
    ⟨(some 32), none, .bld false [(.int .i64 (0)), (.int .i64 (0)), (.str ⟨#[]⟩)] [(0, 1, (.t 29)), (1, 1, (.t 30)), (2, 1, (.t 31))]⟩,
    ⟨(some 33), none, .callr 140 (.t 28) [(.t 28), (.t 32)]⟩]) (
 .seq (
  .reg none [⟨(some 34), none, .mv (.t 0)⟩,
    ⟨(some 35), none, .nil (.t 34)⟩,
    ⟨(some 36), none, .fad 8 (.t 35)⟩,
    ⟨(some 37), none, .ld 1 false (.t 36)⟩,
    ⟨(some 38), none, .len (.t 37)⟩,
    ⟨(some 39), none, .bin .eql (.t 38) (.c (.int .i64 (0)))⟩]) (
 .cond (.t 39) (
  .reg none [⟨(some 40), none, .mv (.t 0)⟩,
    ⟨(some 41), none, .nil (.t 40)⟩,
    ⟨(some 42), none, .fad 4 (.t 41)⟩,
    ⟨none, none, .st 1 false (.t 42) (.c (.int .i64 (0)))⟩]) (
  .skip)))))
def r_impl_Tenant_end : Nat × List RV := (43, [])

theorem c_impl_Tenant_end : cmpS PT PF PA (Try.prog.funcs[91]?) = some (r_impl_Tenant_end.1, r_impl_Tenant_end.2, stripK k_impl_Tenant_end) := by kernel_rfl

theorem h_impl_end (t : TTenant) (hok : tenantOk t = true) (i : Nat) (hi : i < t.queue.length) (code : Int) (text : ByteArray) (hw : wTenant t < 2 ^ 31) :
    CallsB Try.prog 91 [.one (.pt 10 1000 [] 0 0), aI i, aI code, aS text] ⟨25, 10, [rTenant t]⟩ ⟨25, 10, [rTenant (endT t i code text)]⟩ (.tup []) := by
  refine PrunA c_impl_Tenant_end (by simp [r_impl_Tenant_end]) (by simp) ?_
  unfold k_impl_Tenant_end r_impl_Tenant_end
  have hd := h_del_Job t.queue i hi
  have hq : t.queue.getD i default = t.queue[i] := by simp [List.getD, hi]
  have hon := tenant_once hok hi
  have htl := h_impl_tell { t with queue := t.queue.take i ++ t.queue.drop (i + 1) } ⟨t.queue[i].ticket, code, text⟩ hon (by have := wL_len wOutcome t.out; simp only [wTenant] at hw; simp only; omega)
  simp only [endT]
  rw [hq]
  obtain ⟨a0, a1, a2, a3, a4, a5, a6, d, qs, xs⟩ := t
  simp only [wTenant] at hw
  simp only at hi hd htl
  have hl8 := wL_len wJob qs
  have w1 : IntKind.i64.wrap ((i : Int) + 1) = (i : Int) + 1 := wrapI (by omega) (by omega)
  rcases ej : qs[i] with ⟨j1, j2, j3, j4⟩
  rw [ej] at htl
  simp only at htl
  have hA : (List.take i (List.map rJob qs)).length = i := by simp; omega
  simp [rTenant, rOutcome, sOutcome] at htl
  simp [rTenant, hi, w1, ej, rJob]
  refine callOG_F hd (by simp) ?_
  simp
  refine callRG_F htl rfl rfl (.inl rfl) (by simp) ?_
  by_cases cq : qs.length = 1
  · have h0 : i = 0 := by omega
    subst h0
    simp [cq]
  · have cN : ¬ ((i : Int) + ((qs.length - (i + 1) : Nat) : Int) = 0) := by omega
    have hm : min i qs.length = i := by omega
    simp [cq, cN, hm]
def finOk (t : TTenant) (code : Int) : Bool := decide (t.queue.length ≠ 0) && (!(codeText code).toList.isEmpty) && tenantOk t
def finT (t : TTenant) (code : Int) (text : ByteArray) : TTenant := if finOk t code then endT t 0 code text else t
theorem finOk_1 {t : TTenant} {code : Int} (h : tenantOk t = false) : finOk t code = false := by simp [finOk, h]
theorem finOk_2 {t : TTenant} {code : Int} (h : t.queue.length = 0) : finOk t code = false := by simp only [finOk, h]; simp
theorem finOk_3 {t : TTenant} {code : Int} (h : (codeText code).toList.isEmpty = true) : finOk t code = false := by simp only [finOk, h]; simp
theorem finOk_4 {t : TTenant} {code : Int} (h1 : tenantOk t = true) (h2 : ¬ t.queue.length = 0) (h3 : (codeText code).toList.isEmpty = false) : finOk t code = true := by simp only [finOk, h1, h3]; simpa using h2
theorem finT_0 {t : TTenant} {code : Int} {text : ByteArray} (h : finOk t code = false) : finT t code text = t := by rw [finT, h]; rfl
theorem finT_1 {t : TTenant} {code : Int} {text : ByteArray} (h : finOk t code = true) : finT t code text = endT t 0 code text := by rw [finT, h]; rfl
-- 45 loop.example/g00485/spec.Finish
def k_spec_Finish : K :=
 .seq (
  .reg none [⟨(some 3), none, .box 25 10 (.t 0)⟩,
    ⟨(some 6), none, .alc 25 10 [(.int .i64 (0)), (.int .i64 (0)), (.int .i64 (0)), (.int .i64 (0)), (.int .i64 (0)), (.int .i64 (0)), (.int .i64 (0)), (.int .i64 (0)), (.ar true 133 10 []), (.ar true 102 3 [])]⟩,
    ⟨(some 7), none, .asn (.c (.bool false))⟩]) (
 .seq (
  .seq (
   .reg none [⟨(some 8), none, .ld 10 true (.t 3)⟩,
     ⟨(some 9), none, .call 47 [(.t 8)]⟩,
     ⟨(some 10), none, .not (.t 9)⟩,
     ⟨(some 11), none, .mv (.t 10)⟩,
     ⟨(some 12), (some (11, false)), .fad 8 (.t 3)⟩,
     ⟨(some 13), (some (11, false)), .ld 1 false (.t 12)⟩,
     ⟨(some 14), (some (11, false)), .len (.t 13)⟩,
     ⟨(some 15), (some (11, false)), .bin .eql (.t 14) (.c (.int .i64 (0)))⟩,
     ⟨(some 16), none, .pick (.t 11) (.c (.bool true)) (.t 15)⟩,
     ⟨(some 17), none, .mv (.t 16)⟩,
     ⟨(some 18), (some (17, false)), .mv (.t 1)⟩,
     ⟨(some 19), (some (17, false)), .call 88 [(.t 18)]⟩,
     ⟨(some 20), (some (17, false)), .bin .eql (.t 19) (.c (.str ⟨#[]⟩))⟩,
     ⟨(some 21), none, .pick (.t 17) (.c (.bool true)) (.t 20)⟩]) (
  .cond (.t 21) (
   .seq (
    .reg none [⟨(some 22), none, .ld 10 true (.t 3)⟩,
      ⟨(some 23), none, .call 66 [(.t 22)]⟩,
      ⟨none, none, .st 10 false (.t 6) (.t 23)⟩,
      ⟨(some 7), none, .asn (.c (.bool false))⟩]) (
   .ret)) (
   .skip))) (
 .seq (
  .reg none [⟨(some 24), none, .ld 10 true (.t 3)⟩,
    ⟨(some 25), none, .mv (.t 1)⟩,
    ⟨(some 26), none, .mv (.t 2)⟩,
    ⟨(some 27), none, .call 89 [(.t 24), (.c (.int .i64 (0))), (.t 25), (.t 26)]⟩,
    ⟨none, none, .st 10 false (.t 6) (.t 27)⟩,
    ⟨(some 7), none, .asn (.c (.bool true))⟩]) (
 .ret)))
def r_spec_Finish : Nat × List RV := (28, [.c 6 10 true, .t 7])

theorem c_spec_Finish : cmpS PT PF PA (Try.prog.funcs[45]?) = some (r_spec_Finish.1, r_spec_Finish.2, stripK k_spec_Finish) := by kernel_rfl

theorem h_spec_Finish (t : TTenant) (code : Int) (text : ByteArray) (hw : wTenant t < 2 ^ 31) :
    CallsF Try.prog 45 [.agg (sTenant t), aI code, aS text] (.tup [(true, rTenant (finT t code text)), (false, [.bool (finOk t code)])]) := by
  refine Prun c_spec_Finish (by simp [r_spec_Finish]) (by simp) ?_
  unfold k_spec_Finish r_spec_Finish
  have hk := h_spec_l14Copy t hw
  have ho := h_spec_TenantOk t (by omega)
  rw [tenantOk_eq] at ho
  have hc := h_spec_CodeText code
  have he := fun hi => h_spec_l14End t 0 hi code text hw
  cases h1 : tenantOk t with
  | false =>
    have hf := finOk_1 (code := code) h1
    rw [h1] at ho
    rw [finT_0 hf, hf]
    simp [sTenant]
    first | refine callG_F ho (by simp) ?_ | refine callOG_F ho (by simp) ?_ | refine gcal_F ho (by simp) ?_ | refine callRG_F ho rfl rfl (by simp) (by simp) ?_ | refine ⟨_, by simp, ho, ?_⟩
    try simp [rTenant, sTenant]
    first | refine callG_F hk (by simp) ?_ | refine callOG_F hk (by simp) ?_ | refine gcal_F hk (by simp) ?_ | refine callRG_F hk rfl rfl (by simp) (by simp) ?_ | refine ⟨_, by simp, hk, ?_⟩
    try simp [rTenant, sTenant]
  | true =>
    rw [h1] at ho
    by_cases h2 : t.queue.length = 0
    · have hf := finOk_2 (code := code) h2
      rw [finT_0 hf, hf]
      simp [sTenant]
      first | refine callG_F ho (by simp) ?_ | refine callOG_F ho (by simp) ?_ | refine gcal_F ho (by simp) ?_ | refine callRG_F ho rfl rfl (by simp) (by simp) ?_ | refine ⟨_, by simp, ho, ?_⟩
      try simp [rTenant, sTenant, h2]
      first | refine callG_F hk (by simp) ?_ | refine callOG_F hk (by simp) ?_ | refine gcal_F hk (by simp) ?_ | refine callRG_F hk rfl rfl (by simp) (by simp) ?_ | refine ⟨_, by simp, hk, ?_⟩
      try simp [rTenant, sTenant, h2]
    · have hf3 := finOk_3 (t := t) (code := code)
      have hf4 := finOk_4 (code := code) h1 h2
      have he := he (by omega)
      cases h3 : (codeText code).toList.isEmpty with
      | true =>
        have hf := hf3 h3
        rw [finT_0 hf, hf]
        simp [sTenant]
        first | refine callG_F ho (by simp) ?_ | refine callOG_F ho (by simp) ?_ | refine gcal_F ho (by simp) ?_ | refine callRG_F ho rfl rfl (by simp) (by simp) ?_ | refine ⟨_, by simp, ho, ?_⟩
        try simp [rTenant, sTenant, h2, h3, aS]
        first | refine callG_F hc (by simp) ?_ | refine callOG_F hc (by simp) ?_ | refine gcal_F hc (by simp) ?_ | refine callRG_F hc rfl rfl (by simp) (by simp) ?_ | refine ⟨_, by simp, hc, ?_⟩
        try simp [rTenant, sTenant, h2, h3, aS]
        first | refine callG_F hk (by simp) ?_ | refine callOG_F hk (by simp) ?_ | refine gcal_F hk (by simp) ?_ | refine callRG_F hk rfl rfl (by simp) (by simp) ?_ | refine ⟨_, by simp, hk, ?_⟩
        try simp [rTenant, sTenant, h2, h3, aS]
      | false =>
        have hf := hf4 h3
        rw [finT_1 hf, hf]
        generalize endT t 0 code text = E at *
        simp [sTenant]
        first | refine callG_F ho (by simp) ?_ | refine callOG_F ho (by simp) ?_ | refine gcal_F ho (by simp) ?_ | refine callRG_F ho rfl rfl (by simp) (by simp) ?_ | refine ⟨_, by simp, ho, ?_⟩
        try simp [rTenant, sTenant, h2, h3, aS]
        first | refine callG_F hc (by simp) ?_ | refine callOG_F hc (by simp) ?_ | refine gcal_F hc (by simp) ?_ | refine callRG_F hc rfl rfl (by simp) (by simp) ?_ | refine ⟨_, by simp, hc, ?_⟩
        try simp [rTenant, sTenant, h2, h3, aS]
        first | refine callG_F he (by simp) ?_ | refine callOG_F he (by simp) ?_ | refine gcal_F he (by simp) ?_ | refine callRG_F he rfl rfl (by simp) (by simp) ?_ | refine ⟨_, by simp, he, ?_⟩
        try simp [rTenant, sTenant, h2, h3, aS]
-- 46 loop.example/g00485/impl.Finish
def k_impl_Finish : K :=
 .seq (
  .reg none [⟨(some 3), none, .box 25 10 (.t 0)⟩,
    ⟨(some 6), none, .alc 25 10 [(.int .i64 (0)), (.int .i64 (0)), (.int .i64 (0)), (.int .i64 (0)), (.int .i64 (0)), (.int .i64 (0)), (.int .i64 (0)), (.int .i64 (0)), (.ar true 133 10 []), (.ar true 102 3 [])]⟩,
    ⟨(some 7), none, .asn (.c (.bool false))⟩]) (
 .seq (
  .reg none [⟨(some 9), none, .ld 10 true (.t 3)⟩,
    ⟨(some 10), none, .call 69 [(.t 9)]⟩,
    ⟨(some 8), none, .alc 25 10 [(.int .i64 (0)), (.int .i64 (0)), (.int .i64 (0)), (.int .i64 (0)), (.int .i64 (0)), (.int .i64 (0)), (.int .i64 (0)), (.int .i64 (0)), (.ar true 133 10 []), (.ar true 102 3 [])]⟩,
    ⟨none, none, .st 10 false (.t 8) (.t 10)⟩]) (
 .seq (
  .seq (
   .reg none [⟨(some 11), none, .fad 8 (.t 3)⟩,
     ⟨(some 12), none, .ld 1 false (.t 11)⟩,
     ⟨(some 13), none, .len (.t 12)⟩,
     ⟨(some 14), none, .bin .eql (.t 13) (.c (.int .i64 (0)))⟩,
     ⟨(some 15), none, .mv (.t 14)⟩,
     ⟨(some 16), (some (15, false)), .mv (.t 1)⟩,
     ⟨(some 17), (some (15, false)), .call 90 [(.t 16)]⟩,
     ⟨(some 18), (some (15, false)), .bin .eql (.t 17) (.c (.str ⟨#[]⟩))⟩,
     ⟨(some 19), none, .pick (.t 15) (.c (.bool true)) (.t 18)⟩,
     ⟨(some 20), none, .mv (.t 19)⟩,
     ⟨(some 21), (some (20, false)), .ld 10 true (.t 3)⟩,
     ⟨(some 22), (some (20, false)), .call 48 [(.t 21)]⟩,
     ⟨(some 23), (some (20, false)), .not (.t 22)⟩,
     ⟨(some 24), none, .pick (.t 20) (.c (.bool true)) (.t 23)⟩]) (
  .cond (.t 24) (
   .seq (
    .reg none [⟨(some 25), none, .ld 10 true (.t 8)⟩,
      ⟨none, none, .st 10 false (.t 6) (.t 25)⟩,
      ⟨(some 7), none, .asn (.c (.bool false))⟩]) (
   .ret)) (
   .skip))) (
 .seq (
  .reg none [⟨(some 26), none, .mv (.t 1)⟩,
    ⟨(some 27), none, .mv (.t 2)⟩,
    ⟨(some 28), none, .callr 91 (.t 8) [(.t 8), (.c (.int .i64 (0))), (.t 26), (.t 27)]⟩]) (
 .seq (
  .reg none [⟨(some 29), none, .ld 10 true (.t 8)⟩,
    ⟨none, none, .st 10 false (.t 6) (.t 29)⟩,
    ⟨(some 7), none, .asn (.c (.bool true))⟩]) (
 .ret)))))
def r_impl_Finish : Nat × List RV := (30, [.c 6 10 true, .t 7])

theorem c_impl_Finish : cmpS PT PF PA (Try.prog.funcs[46]?) = some (r_impl_Finish.1, r_impl_Finish.2, stripK k_impl_Finish) := by kernel_rfl

theorem h_impl_Finish (t : TTenant) (hl : lTenant t) (code : Int) (text : ByteArray) (hw : wTenant t < 2 ^ 31) :
    CallsF Try.prog 46 [.agg (sTenant t), aI code, aS text] (.tup [(true, rTenant (finT t code text)), (false, [.bool (finOk t code)])]) := by
  refine Prun c_impl_Finish (by simp [r_impl_Finish]) (by simp) ?_
  unfold k_impl_Finish r_impl_Finish
  have hk := h_impl_copyTenant t hw
  have ho := h_impl_TenantOk t hl (by omega)
  have hc := h_impl_CodeText code
  have he := fun hok hi => h_impl_end t hok 0 hi code text hw
  by_cases h2 : t.queue.length = 0
  · have hf := finOk_2 (code := code) h2
    rw [finT_0 hf, hf]
    simp [sTenant]
    first | refine callG_F hk (by simp) ?_ | refine callOG_F hk (by simp) ?_ | refine gcal_F hk (by simp) ?_ | refine callRG_F hk rfl rfl (by simp) (by simp) ?_ | refine ⟨_, by simp, hk, ?_⟩
    try simp [rTenant, sTenant, h2]
    exact List.eq_nil_of_length_eq_zero h2
  · cases h3 : (codeText code).toList.isEmpty with
    | true =>
      have hf := finOk_3 (t := t) h3
      rw [finT_0 hf, hf]
      simp [sTenant]
      first | refine callG_F hk (by simp) ?_ | refine callOG_F hk (by simp) ?_ | refine gcal_F hk (by simp) ?_ | refine callRG_F hk rfl rfl (by simp) (by simp) ?_ | refine ⟨_, by simp, hk, ?_⟩
      try simp [rTenant, sTenant, h2, h3, aS]
      first | refine callG_F hc (by simp) ?_ | refine callOG_F hc (by simp) ?_ | refine gcal_F hc (by simp) ?_ | refine callRG_F hc rfl rfl (by simp) (by simp) ?_ | refine ⟨_, by simp, hc, ?_⟩
      try simp [rTenant, sTenant, h2, h3, aS]
    | false =>
      cases h1 : tenantOk t with
      | false =>
        have hf := finOk_1 (code := code) h1
        rw [h1] at ho
        rw [finT_0 hf, hf]
        simp [sTenant]
        first | refine callG_F hk (by simp) ?_ | refine callOG_F hk (by simp) ?_ | refine gcal_F hk (by simp) ?_ | refine callRG_F hk rfl rfl (by simp) (by simp) ?_ | refine ⟨_, by simp, hk, ?_⟩
        try simp [rTenant, sTenant, h2, h3, aS]
        first | refine callG_F hc (by simp) ?_ | refine callOG_F hc (by simp) ?_ | refine gcal_F hc (by simp) ?_ | refine callRG_F hc rfl rfl (by simp) (by simp) ?_ | refine ⟨_, by simp, hc, ?_⟩
        try simp [rTenant, sTenant, h2, h3, aS]
        first | refine callG_F ho (by simp) ?_ | refine callOG_F ho (by simp) ?_ | refine gcal_F ho (by simp) ?_ | refine callRG_F ho rfl rfl (by simp) (by simp) ?_ | refine ⟨_, by simp, ho, ?_⟩
        try simp [rTenant, sTenant, h2, h3, aS]
      | true =>
        have hf := finOk_4 (code := code) h1 h2 h3
        have he := he h1 (by omega)
        rw [h1] at ho
        rw [finT_1 hf, hf]
        generalize endT t 0 code text = E at *
        simp [rTenant] at he
        simp [sTenant]
        first | refine callG_F hk (by simp) ?_ | refine callOG_F hk (by simp) ?_ | refine gcal_F hk (by simp) ?_ | refine callRG_F hk rfl rfl (by simp) (by simp) ?_ | refine ⟨_, by simp, hk, ?_⟩
        try simp [rTenant, sTenant, h2, h3, aS]
        first | refine callG_F hc (by simp) ?_ | refine callOG_F hc (by simp) ?_ | refine gcal_F hc (by simp) ?_ | refine callRG_F hc rfl rfl (by simp) (by simp) ?_ | refine ⟨_, by simp, hc, ?_⟩
        try simp [rTenant, sTenant, h2, h3, aS]
        first | refine callG_F ho (by simp) ?_ | refine callOG_F ho (by simp) ?_ | refine gcal_F ho (by simp) ?_ | refine callRG_F ho rfl rfl (by simp) (by simp) ?_ | refine ⟨_, by simp, ho, ?_⟩
        try simp [rTenant, sTenant, h2, h3, aS]
        first | refine callG_F he (by simp) ?_ | refine callOG_F he (by simp) ?_ | refine gcal_F he (by simp) ?_ | refine callRG_F he rfl rfl (by simp) (by simp) ?_ | refine ⟨_, by simp, he, ?_⟩
        try simp [rTenant, sTenant, h2, h3, aS]
end Go.Am
-- Err_to1
namespace Go.Am
open Go.Proofs
set_option maxHeartbeats 4000000
set_option maxRecDepth 100000
attribute [-simp] rSlot_len sSlot_len shr_rSlot shr_sSlot shrs_rSlot shrs_sSlot noSh_rSlot mSlot_wr mSlot_n rNode_len sNode_len shr_rNode shr_sNode shrs_rNode shrs_sNode noSh_rNode mNode_wr mNode_n rTree_len sTree_len shr_rTree shr_sTree shrs_rTree shrs_sTree noSh_rTree mTree_wr mTree_n rRun_len sRun_len shr_rRun shr_sRun shrs_rRun shrs_sRun noSh_rRun mRun_wr mRun_n rJob_len sJob_len shr_rJob shr_sJob shrs_rJob shrs_sJob noSh_rJob mJob_wr mJob_n rOutcome_len sOutcome_len shr_rOutcome shr_sOutcome shrs_rOutcome shrs_sOutcome noSh_rOutcome mOutcome_wr mOutcome_n rTenant_len sTenant_len shr_rTenant shr_sTenant shrs_rTenant shrs_sTenant noSh_rTenant mTenant_wr mTenant_n map_rs_Slot map_rs_Err map_rs_Outcome uTenant_wr uTenant_n rConf_len sConf_len shr_rConf shr_sConf shrs_rConf shrs_sConf noSh_rConf mConf_wr mConf_n rLine_len sLine_len shr_rLine shr_sLine shrs_rLine shrs_sLine noSh_rLine mLine_wr mLine_n rStore_len sStore_len shr_rStore shr_sStore shrs_rStore shrs_sStore noSh_rStore mStore_wr mStore_n uStore_wr uStore_n noSh_sOutcome noSh_sSlot noSh_sErr noSh_tenant
-- 202 loop.example/g00485/laws.toErr
def k_laws_toErr : K :=
 .seq (
  .reg none [⟨(some 1), none, .box 237 3 (.t 0)⟩,
    ⟨(some 2), none, .alc 187 3 [(.int .i64 (0)), (.int .i64 (0)), (.int .i64 (0))]⟩]) (
 .seq (
  .reg none [⟨(some 3), none, .alc 187 3 [(.int .i64 (0)), (.int .i64 (0)), (.int .i64 (0))]⟩]) (
 .seq (
  .reg none [⟨(some 4), none, .fad 0 (.t 1)⟩,
    ⟨(some 5), none, .ld 1 false (.t 4)⟩,
    ⟨(some 6), none, .fad 0 (.t 3)⟩,
    ⟨none, none, .st 1 false (.t 6) (.t 5)⟩]) (
 .seq (
  .reg none [⟨(some 7), none, .fad 1 (.t 1)⟩,
    ⟨(some 8), none, .ld 1 false (.t 7)⟩,
    ⟨(some 9), none, .fad 1 (.t 3)⟩,
    ⟨none, none, .st 1 false (.t 9) (.t 8)⟩]) (
 .seq (
  .reg none [⟨(some 10), none, .fad 2 (.t 1)⟩,
    ⟨(some 11), none, .ld 1 false (.t 10)⟩,
    ⟨(some 12), none, .fad 2 (.t 3)⟩,
    ⟨none, none, .st 1 false (.t 12) (.t 11)⟩]) (
 .seq (
  .reg none [⟨(some 13), none, .ld 3 true (.t 3)⟩,
    ⟨none, none, .st 3 false (.t 2) (.t 13)⟩]) (
 .ret))))))
def r_laws_toErr : Nat × List RV := (14, [.c 2 3 true])

theorem c_laws_toErr : cmpS PT PF PA (Try.prog.funcs[202]?) = some (r_laws_toErr.1, r_laws_toErr.2, stripK k_laws_toErr) := by kernel_rfl

theorem h_toErr (a : TErr) (ha : wErr a < 2 ^ 31) : CallsF Try.prog 202 [.agg (sErr a)] (.agg (rErr a)) := by
  refine Prun c_laws_toErr (by simp [r_laws_toErr]) (by simp) ?_
  unfold k_laws_toErr r_laws_toErr
  simp only [wErr] at ha
  simp [sErr, rErr]
end Go.Am
-- Err_to
namespace Go.Am
open Go.Proofs
set_option maxHeartbeats 4000000
set_option maxRecDepth 100000
attribute [-simp] rSlot_len sSlot_len shr_rSlot shr_sSlot shrs_rSlot shrs_sSlot noSh_rSlot mSlot_wr mSlot_n rNode_len sNode_len shr_rNode shr_sNode shrs_rNode shrs_sNode noSh_rNode mNode_wr mNode_n rTree_len sTree_len shr_rTree shr_sTree shrs_rTree shrs_sTree noSh_rTree mTree_wr mTree_n rRun_len sRun_len shr_rRun shr_sRun shrs_rRun shrs_sRun noSh_rRun mRun_wr mRun_n rJob_len sJob_len shr_rJob shr_sJob shrs_rJob shrs_sJob noSh_rJob mJob_wr mJob_n rOutcome_len sOutcome_len shr_rOutcome shr_sOutcome shrs_rOutcome shrs_sOutcome noSh_rOutcome mOutcome_wr mOutcome_n rTenant_len sTenant_len shr_rTenant shr_sTenant shrs_rTenant shrs_sTenant noSh_rTenant mTenant_wr mTenant_n map_rs_Slot map_rs_Err map_rs_Outcome uTenant_wr uTenant_n rConf_len sConf_len shr_rConf shr_sConf shrs_rConf shrs_sConf noSh_rConf mConf_wr mConf_n rLine_len sLine_len shr_rLine shr_sLine shrs_rLine shrs_sLine noSh_rLine mLine_wr mLine_n rStore_len sStore_len shr_rStore shr_sStore shrs_rStore shrs_sStore noSh_rStore mStore_wr mStore_n uStore_wr uStore_n noSh_sOutcome noSh_sSlot noSh_sErr noSh_tenant
-- 188 loop.example/g00485/laws.toErrS
def k_laws_toErrS : K :=
 .seq (
  .reg none [⟨(some 2), none, .asn (.c (.ar true 187 3 []))⟩]) (
 .seq (
  .reg none [⟨(some 5), none, .mv (.t 0)⟩,
    ⟨(some 6), none, .len (.t 5)⟩,
    ⟨(some 7), none, .mks 187 3 24 [(.int .i64 (0)), (.int .i64 (0)), (.int .i64 (0))] (.t 6) (.t 6)⟩,
    ⟨(some 3), none, .asn (.t 7)⟩]) (
 .seq (
  .seq (
   .reg none [⟨(some 4), none, .asn (.c (.int .i64 (0)))⟩]) (
  .block 0 (
   .loop (some ([0, 3, 4], [0, 3, 4, 1000])) (
    .seq (
     .seq (
      .reg none [⟨(some 8), none, .mv (.t 4)⟩,
        ⟨(some 9), none, .mv (.t 0)⟩,
        ⟨(some 10), none, .len (.t 9)⟩,
        ⟨(some 11), none, .bin .lss (.t 8) (.t 10)⟩]) (
     .cond (.t 11) (
      .skip) (
      .exit 0))) (
    .seq (
     .block 1 (
      .reg none [⟨(some 14), none, .mv (.t 3)⟩,
        ⟨(some 15), none, .mv (.t 4)⟩,
        ⟨(some 16), none, .mv (.t 0)⟩,
        ⟨(some 17), none, .mv (.t 4)⟩,
        ⟨(some 18), none, .iad 3 (.t 16) (.t 17)⟩,
        ⟨(some 19), none, .ld 3 true (.t 18)⟩,
        ⟨(some 20), none, .call 202 [(.t 19)]⟩,
        ⟨(some 21), none, .iad 3 (.t 14) (.t 15)⟩,
        ⟨none, none, .st 3 false (.t 21) (.t 20)⟩])) (
    .reg none [⟨(some 12), none, .mv (.t 4)⟩,
      ⟨(some 13), none, .bin .add (.t 12) (.c (.int .i64 (1)))⟩,
      ⟨(some 4), none, .asn (.t 13)⟩])))))) (
 .seq (
  .reg none [⟨(some 22), none, .mv (.t 3)⟩,
    ⟨(some 2), none, .asn (.t 22)⟩]) (
 .ret))))
def r_laws_toErrS : Nat × List RV := (23, [.t 2])

theorem c_laws_toErrS : cmpS PT PF PA (Try.prog.funcs[188]?) = some (r_laws_toErrS.1, r_laws_toErrS.2, stripK k_laws_toErrS) := by kernel_rfl

theorem h_toErrS (xs : List TErr) (hx : wL wErr xs < 2 ^ 31) : CallsF Try.prog 188 [.one (.ar false 0 3 (xs.map sErr))] (.one (.ar true 187 3 (xs.map rErr))) := by
  refine Prun c_laws_toErrS (by simp [r_laws_toErrS]) (by simp) ?_
  unfold k_laws_toErrS r_laws_toErrS
  have hlen := wL_len wErr xs
  have hc : ((xs.length : Int) ≤ 4294967296) := by omega
  simp [hc]
  refine awp_loop (fun n σ => ∃ i : Nat, i ≤ xs.length ∧ n = xs.length - i ∧ σ = ⟨[(0, .one (.ar false 0 3 (xs.map sErr))), (3, .one (.vw 187 3 3 [] 0 xs.length)), (4, aI i)], [(3, ⟨187, 3, part rErr zErr xs i⟩)]⟩) (xs.length) ⟨0, by simp [part_zero, zErr]⟩ ?_
  rintro n σ ⟨i, hi, rfl, rfl⟩
  by_cases h : i < xs.length
  · have hw := wL_get wErr xs i h
    have := part_set (r := rErr) (z := zErr) h
    simp [h, sErr]
    refine callG_F (h_toErr xs[i] (by omega)) (by simp) ?_
    simp [h, part_get h, rErr, zErr]
    refine ⟨xs.length - (i + 1), by omega, i + 1, by omega, rfl, ?_⟩
    rw [wrapI (by omega) (by omega)]
    simp only [rErr, zErr] at this
    simp [rErr, zErr, this]
  · have : i = xs.length := by omega
    subst this
    simp [part_all]
end Go.Am
-- Slot_to1
namespace Go.Am
open Go.Proofs
set_option maxHeartbeats 4000000
set_option maxRecDepth 100000
attribute [-simp] rErr_len sErr_len shr_rErr shr_sErr shrs_rErr shrs_sErr noSh_rErr mErr_wr mErr_n rNode_len sNode_len shr_rNode shr_sNode shrs_rNode shrs_sNode noSh_rNode mNode_wr mNode_n rTree_len sTree_len shr_rTree shr_sTree shrs_rTree shrs_sTree noSh_rTree mTree_wr mTree_n rRun_len sRun_len shr_rRun shr_sRun shrs_rRun shrs_sRun noSh_rRun mRun_wr mRun_n rJob_len sJob_len shr_rJob shr_sJob shrs_rJob shrs_sJob noSh_rJob mJob_wr mJob_n rOutcome_len sOutcome_len shr_rOutcome shr_sOutcome shrs_rOutcome shrs_sOutcome noSh_rOutcome mOutcome_wr mOutcome_n rTenant_len sTenant_len shr_rTenant shr_sTenant shrs_rTenant shrs_sTenant noSh_rTenant mTenant_wr mTenant_n map_rs_Slot map_rs_Err map_rs_Outcome uTenant_wr uTenant_n rConf_len sConf_len shr_rConf shr_sConf shrs_rConf shrs_sConf noSh_rConf mConf_wr mConf_n rLine_len sLine_len shr_rLine shr_sLine shrs_rLine shrs_sLine noSh_rLine mLine_wr mLine_n rStore_len sStore_len shr_rStore shr_sStore shrs_rStore shrs_sStore noSh_rStore mStore_wr mStore_n uStore_wr uStore_n noSh_sOutcome noSh_sSlot noSh_sErr noSh_tenant
-- 200 loop.example/g00485/laws.toSlot
def k_laws_toSlot : K :=
 .seq (
  .reg none [⟨(some 1), none, .box 234 2 (.t 0)⟩,
    ⟨(some 2), none, .alc 183 2 [(.int .i64 (0)), (.int .i64 (0))]⟩]) (
 .seq (
  .reg none [⟨(some 3), none, .alc 183 2 [(.int .i64 (0)), (.int .i64 (0))]⟩]) (
 .seq (
  .reg none [⟨(some 4), none, .fad 0 (.t 1)⟩,
    ⟨(some 5), none, .ld 1 false (.t 4)⟩,
    ⟨(some 6), none, .fad 0 (.t 3)⟩,
    ⟨none, none, .st 1 false (.t 6) (.t 5)⟩]) (
 .seq (
  .reg none [⟨(some 7), none, .fad 1 (.t 1)⟩,
    ⟨(some 8), none, .ld 1 false (.t 7)⟩,
    ⟨(some 9), none, .fad 1 (.t 3)⟩,
    ⟨none, none, .st 1 false (.t 9) (.t 8)⟩]) (
 .seq (
  .reg none [⟨(some 10), none, .ld 2 true (.t 3)⟩,
    ⟨none, none, .st 2 false (.t 2) (.t 10)⟩]) (
 .ret)))))
def r_laws_toSlot : Nat × List RV := (11, [.c 2 2 true])

theorem c_laws_toSlot : cmpS PT PF PA (Try.prog.funcs[200]?) = some (r_laws_toSlot.1, r_laws_toSlot.2, stripK k_laws_toSlot) := by kernel_rfl

theorem h_toSlot (a : TSlot) (ha : wSlot a < 2 ^ 31) : CallsF Try.prog 200 [.agg (sSlot a)] (.agg (rSlot a)) := by
  refine Prun c_laws_toSlot (by simp [r_laws_toSlot]) (by simp) ?_
  unfold k_laws_toSlot r_laws_toSlot
  simp only [wSlot] at ha
  simp [sSlot, rSlot]
end Go.Am
-- Slot_to
namespace Go.Am
open Go.Proofs
set_option maxHeartbeats 4000000
set_option maxRecDepth 100000
attribute [-simp] rErr_len sErr_len shr_rErr shr_sErr shrs_rErr shrs_sErr noSh_rErr mErr_wr mErr_n rNode_len sNode_len shr_rNode shr_sNode shrs_rNode shrs_sNode noSh_rNode mNode_wr mNode_n rTree_len sTree_len shr_rTree shr_sTree shrs_rTree shrs_sTree noSh_rTree mTree_wr mTree_n rRun_len sRun_len shr_rRun shr_sRun shrs_rRun shrs_sRun noSh_rRun mRun_wr mRun_n rJob_len sJob_len shr_rJob shr_sJob shrs_rJob shrs_sJob noSh_rJob mJob_wr mJob_n rOutcome_len sOutcome_len shr_rOutcome shr_sOutcome shrs_rOutcome shrs_sOutcome noSh_rOutcome mOutcome_wr mOutcome_n rTenant_len sTenant_len shr_rTenant shr_sTenant shrs_rTenant shrs_sTenant noSh_rTenant mTenant_wr mTenant_n map_rs_Slot map_rs_Err map_rs_Outcome uTenant_wr uTenant_n rConf_len sConf_len shr_rConf shr_sConf shrs_rConf shrs_sConf noSh_rConf mConf_wr mConf_n rLine_len sLine_len shr_rLine shr_sLine shrs_rLine shrs_sLine noSh_rLine mLine_wr mLine_n rStore_len sStore_len shr_rStore shr_sStore shrs_rStore shrs_sStore noSh_rStore mStore_wr mStore_n uStore_wr uStore_n noSh_sOutcome noSh_sSlot noSh_sErr noSh_tenant
-- 186 loop.example/g00485/laws.toSlotS
def k_laws_toSlotS : K :=
 .seq (
  .reg none [⟨(some 2), none, .asn (.c (.ar true 183 2 []))⟩]) (
 .seq (
  .reg none [⟨(some 5), none, .mv (.t 0)⟩,
    ⟨(some 6), none, .len (.t 5)⟩,
    ⟨(some 7), none, .mks 183 2 16 [(.int .i64 (0)), (.int .i64 (0))] (.t 6) (.t 6)⟩,
    ⟨(some 3), none, .asn (.t 7)⟩]) (
 .seq (
  .seq (
   .reg none [⟨(some 4), none, .asn (.c (.int .i64 (0)))⟩]) (
  .block 0 (
   .loop (some ([0, 3, 4], [0, 3, 4, 1000])) (
    .seq (
     .seq (
      .reg none [⟨(some 8), none, .mv (.t 4)⟩,
        ⟨(some 9), none, .mv (.t 0)⟩,
        ⟨(some 10), none, .len (.t 9)⟩,
        ⟨(some 11), none, .bin .lss (.t 8) (.t 10)⟩]) (
     .cond (.t 11) (
      .skip) (
      .exit 0))) (
    .seq (
     .block 1 (
      .reg none [⟨(some 14), none, .mv (.t 3)⟩,
        ⟨(some 15), none, .mv (.t 4)⟩,
        ⟨(some 16), none, .mv (.t 0)⟩,
        ⟨(some 17), none, .mv (.t 4)⟩,
        ⟨(some 18), none, .iad 2 (.t 16) (.t 17)⟩,
        ⟨(some 19), none, .ld 2 true (.t 18)⟩,
        ⟨(some 20), none, .call 200 [(.t 19)]⟩,
        ⟨(some 21), none, .iad 2 (.t 14) (.t 15)⟩,
        ⟨none, none, .st 2 false (.t 21) (.t 20)⟩])) (
    .reg none [⟨(some 12), none, .mv (.t 4)⟩,
      ⟨(some 13), none, .bin .add (.t 12) (.c (.int .i64 (1)))⟩,
      ⟨(some 4), none, .asn (.t 13)⟩])))))) (
 .seq (
  .reg none [⟨(some 22), none, .mv (.t 3)⟩,
    ⟨(some 2), none, .asn (.t 22)⟩]) (
 .ret))))
def r_laws_toSlotS : Nat × List RV := (23, [.t 2])

theorem c_laws_toSlotS : cmpS PT PF PA (Try.prog.funcs[186]?) = some (r_laws_toSlotS.1, r_laws_toSlotS.2, stripK k_laws_toSlotS) := by kernel_rfl

theorem h_toSlotS (xs : List TSlot) (hx : wL wSlot xs < 2 ^ 31) : CallsF Try.prog 186 [.one (.ar false 0 2 (xs.map sSlot))] (.one (.ar true 183 2 (xs.map rSlot))) := by
  refine Prun c_laws_toSlotS (by simp [r_laws_toSlotS]) (by simp) ?_
  unfold k_laws_toSlotS r_laws_toSlotS
  have hlen := wL_len wSlot xs
  have hc : ((xs.length : Int) ≤ 4294967296) := by omega
  simp [hc]
  refine awp_loop (fun n σ => ∃ i : Nat, i ≤ xs.length ∧ n = xs.length - i ∧ σ = ⟨[(0, .one (.ar false 0 2 (xs.map sSlot))), (3, .one (.vw 183 2 3 [] 0 xs.length)), (4, aI i)], [(3, ⟨183, 2, part rSlot zSlot xs i⟩)]⟩) (xs.length) ⟨0, by simp [part_zero, zSlot]⟩ ?_
  rintro n σ ⟨i, hi, rfl, rfl⟩
  by_cases h : i < xs.length
  · have hw := wL_get wSlot xs i h
    have := part_set (r := rSlot) (z := zSlot) h
    simp [h, sSlot]
    refine callG_F (h_toSlot xs[i] (by omega)) (by simp) ?_
    simp [h, part_get h, rSlot, zSlot]
    refine ⟨xs.length - (i + 1), by omega, i + 1, by omega, rfl, ?_⟩
    rw [wrapI (by omega) (by omega)]
    simp only [rSlot, zSlot] at this
    simp [rSlot, zSlot, this]
  · have : i = xs.length := by omega
    subst this
    simp [part_all]
end Go.Am
-- Node_to1
namespace Go.Am
open Go.Proofs
set_option maxHeartbeats 4000000
set_option maxRecDepth 100000
attribute [-simp] rErr_len sErr_len shr_rErr shr_sErr shrs_rErr shrs_sErr noSh_rErr mErr_wr mErr_n rSlot_len sSlot_len shr_rSlot shr_sSlot shrs_rSlot shrs_sSlot noSh_rSlot mSlot_wr mSlot_n rTree_len sTree_len shr_rTree shr_sTree shrs_rTree shrs_sTree noSh_rTree mTree_wr mTree_n rRun_len sRun_len shr_rRun shr_sRun shrs_rRun shrs_sRun noSh_rRun mRun_wr mRun_n rJob_len sJob_len shr_rJob shr_sJob shrs_rJob shrs_sJob noSh_rJob mJob_wr mJob_n rOutcome_len sOutcome_len shr_rOutcome shr_sOutcome shrs_rOutcome shrs_sOutcome noSh_rOutcome mOutcome_wr mOutcome_n rTenant_len sTenant_len shr_rTenant shr_sTenant shrs_rTenant shrs_sTenant noSh_rTenant mTenant_wr mTenant_n map_rs_Slot map_rs_Err map_rs_Outcome uTenant_wr uTenant_n rConf_len sConf_len shr_rConf shr_sConf shrs_rConf shrs_sConf noSh_rConf mConf_wr mConf_n rLine_len sLine_len shr_rLine shr_sLine shrs_rLine shrs_sLine noSh_rLine mLine_wr mLine_n rStore_len sStore_len shr_rStore shr_sStore shrs_rStore shrs_sStore noSh_rStore mStore_wr mStore_n uStore_wr uStore_n noSh_sOutcome noSh_sSlot noSh_sErr noSh_tenant
-- 213 loop.example/g00485/laws.toNode
def k_laws_toNode : K :=
 .seq (
  .reg none [⟨(some 1), none, .box 244 5 (.t 0)⟩,
    ⟨(some 2), none, .alc 185 5 [(.int .i64 (0)), (.int .i64 (0)), (.int .i64 (0)), (.int .i64 (0)), (.ar true 3 1 [])]⟩]) (
 .seq (
  .reg none [⟨(some 3), none, .alc 185 5 [(.int .i64 (0)), (.int .i64 (0)), (.int .i64 (0)), (.int .i64 (0)), (.ar true 3 1 [])]⟩]) (
 .seq (
  .reg none [⟨(some 4), none, .fad 0 (.t 1)⟩,
    ⟨(some 5), none, .ld 1 false (.t 4)⟩,
    ⟨(some 6), none, .fad 0 (.t 3)⟩,
    ⟨none, none, .st 1 false (.t 6) (.t 5)⟩]) (
 .seq (
  .reg none [⟨(some 7), none, .fad 1 (.t 1)⟩,
    ⟨(some 8), none, .ld 1 false (.t 7)⟩,
    ⟨(some 9), none, .fad 1 (.t 3)⟩,
    ⟨none, none, .st 1 false (.t 9) (.t 8)⟩]) (
 .seq (
  .reg none [⟨(some 10), none, .fad 2 (.t 1)⟩,
    ⟨(some 11), none, .ld 1 false (.t 10)⟩,
    ⟨(some 12), none, .fad 2 (.t 3)⟩,
    ⟨none, none, .st 1 false (.t 12) (.t 11)⟩]) (
 .seq (
  .reg none [⟨(some 13), none, .fad 3 (.t 1)⟩,
    ⟨(some 14), none, .ld 1 false (.t 13)⟩,
    ⟨(some 15), none, .fad 3 (.t 3)⟩,
    ⟨none, none, .st 1 false (.t 15) (.t 14)⟩]) (
 .seq (
  .reg none [⟨(some 16), none, .fad 4 (.t 1)⟩,
    ⟨(some 17), none, .ld 1 false (.t 16)⟩,
    ⟨(some 18), none, .call 18 [(.t 17)]⟩,
    ⟨(some 19), none, .fad 4 (.t 3)⟩,
    ⟨none, none, .st 1 false (.t 19) (.t 18)⟩]) (
 .seq (
  .reg none [⟨(some 20), none, .ld 5 true (.t 3)⟩,
    ⟨none, none, .st 5 false (.t 2) (.t 20)⟩]) (
 .ret))))))))
def r_laws_toNode : Nat × List RV := (21, [.c 2 5 true])

theorem c_laws_toNode : cmpS PT PF PA (Try.prog.funcs[213]?) = some (r_laws_toNode.1, r_laws_toNode.2, stripK k_laws_toNode) := by kernel_rfl

theorem h_toNode (a : TNode) (ha : wNode a < 2 ^ 31) : CallsF Try.prog 213 [.agg (sNode a)] (.agg (rNode a)) := by
  refine Prun c_laws_toNode (by simp [r_laws_toNode]) (by simp) ?_
  unfold k_laws_toNode r_laws_toNode
  simp only [wNode] at ha
  simp [sNode]
  refine callG_F (h_toIntS a.kids (by omega)) (by simp) ?_
  simp [rNode]
end Go.Am
-- Node_to
namespace Go.Am
open Go.Proofs
set_option maxHeartbeats 4000000
set_option maxRecDepth 100000
attribute [-simp] rErr_len sErr_len shr_rErr shr_sErr shrs_rErr shrs_sErr noSh_rErr mErr_wr mErr_n rSlot_len sSlot_len shr_rSlot shr_sSlot shrs_rSlot shrs_sSlot noSh_rSlot mSlot_wr mSlot_n rTree_len sTree_len shr_rTree shr_sTree shrs_rTree shrs_sTree noSh_rTree mTree_wr mTree_n rRun_len sRun_len shr_rRun shr_sRun shrs_rRun shrs_sRun noSh_rRun mRun_wr mRun_n rJob_len sJob_len shr_rJob shr_sJob shrs_rJob shrs_sJob noSh_rJob mJob_wr mJob_n rOutcome_len sOutcome_len shr_rOutcome shr_sOutcome shrs_rOutcome shrs_sOutcome noSh_rOutcome mOutcome_wr mOutcome_n rTenant_len sTenant_len shr_rTenant shr_sTenant shrs_rTenant shrs_sTenant noSh_rTenant mTenant_wr mTenant_n map_rs_Slot map_rs_Err map_rs_Outcome uTenant_wr uTenant_n rConf_len sConf_len shr_rConf shr_sConf shrs_rConf shrs_sConf noSh_rConf mConf_wr mConf_n rLine_len sLine_len shr_rLine shr_sLine shrs_rLine shrs_sLine noSh_rLine mLine_wr mLine_n rStore_len sStore_len shr_rStore shr_sStore shrs_rStore shrs_sStore noSh_rStore mStore_wr mStore_n uStore_wr uStore_n noSh_sOutcome noSh_sSlot noSh_sErr noSh_tenant
-- 201 loop.example/g00485/laws.toNodeS
def k_laws_toNodeS : K :=
 .seq (
  .reg none [⟨(some 2), none, .asn (.c (.ar true 185 5 []))⟩]) (
 .seq (
  .reg none [⟨(some 5), none, .mv (.t 0)⟩,
    ⟨(some 6), none, .len (.t 5)⟩,
    ⟨(some 7), none, .mks 185 5 56 [(.int .i64 (0)), (.int .i64 (0)), (.int .i64 (0)), (.int .i64 (0)), (.ar true 3 1 [])] (.t 6) (.t 6)⟩,
    ⟨(some 3), none, .asn (.t 7)⟩]) (
 .seq (
  .seq (
   .reg none [⟨(some 4), none, .asn (.c (.int .i64 (0)))⟩]) (
  .block 0 (
   .loop (some ([0, 3, 4], [0, 3, 4, 1000])) (
    .seq (
     .seq (
      .reg none [⟨(some 8), none, .mv (.t 4)⟩,
        ⟨(some 9), none, .mv (.t 0)⟩,
        ⟨(some 10), none, .len (.t 9)⟩,
        ⟨(some 11), none, .bin .lss (.t 8) (.t 10)⟩]) (
     .cond (.t 11) (
      .skip) (
      .exit 0))) (
    .seq (
     .block 1 (
      .reg none [⟨(some 14), none, .mv (.t 3)⟩,
        ⟨(some 15), none, .mv (.t 4)⟩,
        ⟨(some 16), none, .mv (.t 0)⟩,
        ⟨(some 17), none, .mv (.t 4)⟩,
        ⟨(some 18), none, .iad 5 (.t 16) (.t 17)⟩,
        ⟨(some 19), none, .ld 5 true (.t 18)⟩,
        ⟨(some 20), none, .call 213 [(.t 19)]⟩,
        ⟨(some 21), none, .iad 5 (.t 14) (.t 15)⟩,
        ⟨none, none, .st 5 false (.t 21) (.t 20)⟩])) (
    .reg none [⟨(some 12), none, .mv (.t 4)⟩,
      ⟨(some 13), none, .bin .add (.t 12) (.c (.int .i64 (1)))⟩,
      ⟨(some 4), none, .asn (.t 13)⟩])))))) (
 .seq (
  .reg none [⟨(some 22), none, .mv (.t 3)⟩,
    ⟨(some 2), none, .asn (.t 22)⟩]) (
 .ret))))
def r_laws_toNodeS : Nat × List RV := (23, [.t 2])

theorem c_laws_toNodeS : cmpS PT PF PA (Try.prog.funcs[201]?) = some (r_laws_toNodeS.1, r_laws_toNodeS.2, stripK k_laws_toNodeS) := by kernel_rfl

theorem h_toNodeS (xs : List TNode) (hx : wL wNode xs < 2 ^ 31) : CallsF Try.prog 201 [.one (.ar false 0 5 (xs.map sNode))] (.one (.ar true 185 5 (xs.map rNode))) := by
  refine Prun c_laws_toNodeS (by simp [r_laws_toNodeS]) (by simp) ?_
  unfold k_laws_toNodeS r_laws_toNodeS
  have hlen := wL_len wNode xs
  have hc : ((xs.length : Int) ≤ 4294967296) := by omega
  simp [hc]
  refine awp_loop (fun n σ => ∃ i : Nat, i ≤ xs.length ∧ n = xs.length - i ∧ σ = ⟨[(0, .one (.ar false 0 5 (xs.map sNode))), (3, .one (.vw 185 5 3 [] 0 xs.length)), (4, aI i)], [(3, ⟨185, 5, part rNode zNode xs i⟩)]⟩) (xs.length) ⟨0, by simp [part_zero, zNode]⟩ ?_
  rintro n σ ⟨i, hi, rfl, rfl⟩
  by_cases h : i < xs.length
  · have hw := wL_get wNode xs i h
    have := part_set (r := rNode) (z := zNode) h
    simp [h, sNode]
    refine callG_F (h_toNode xs[i] (by omega)) (by simp) ?_
    simp [h, part_get h, rNode, zNode]
    refine ⟨xs.length - (i + 1), by omega, i + 1, by omega, rfl, ?_⟩
    rw [wrapI (by omega) (by omega)]
    simp only [rNode, zNode] at this
    simp [rNode, zNode, this]
  · have : i = xs.length := by omega
    subst this
    simp [part_all]
end Go.Am
-- Tree_to1
namespace Go.Am
open Go.Proofs
set_option maxHeartbeats 4000000
set_option maxRecDepth 100000
attribute [-simp] rErr_len sErr_len shr_rErr shr_sErr shrs_rErr shrs_sErr noSh_rErr mErr_wr mErr_n rSlot_len sSlot_len shr_rSlot shr_sSlot shrs_rSlot shrs_sSlot noSh_rSlot mSlot_wr mSlot_n rRun_len sRun_len shr_rRun shr_sRun shrs_rRun shrs_sRun noSh_rRun mRun_wr mRun_n rJob_len sJob_len shr_rJob shr_sJob shrs_rJob shrs_sJob noSh_rJob mJob_wr mJob_n rOutcome_len sOutcome_len shr_rOutcome shr_sOutcome shrs_rOutcome shrs_sOutcome noSh_rOutcome mOutcome_wr mOutcome_n rTenant_len sTenant_len shr_rTenant shr_sTenant shrs_rTenant shrs_sTenant noSh_rTenant mTenant_wr mTenant_n map_rs_Slot map_rs_Err map_rs_Outcome uTenant_wr uTenant_n rConf_len sConf_len shr_rConf shr_sConf shrs_rConf shrs_sConf noSh_rConf mConf_wr mConf_n rLine_len sLine_len shr_rLine shr_sLine shrs_rLine shrs_sLine noSh_rLine mLine_wr mLine_n rStore_len sStore_len shr_rStore shr_sStore shrs_rStore shrs_sStore noSh_rStore mStore_wr mStore_n uStore_wr uStore_n noSh_sOutcome noSh_sSlot noSh_sErr noSh_tenant
-- 187 loop.example/g00485/laws.toTree
def k_laws_toTree : K :=
 .seq (
  .reg none [⟨(some 1), none, .box 153 1 (.t 0)⟩,
    ⟨(some 2), none, .alc 128 1 [(.ar true 185 5 [])]⟩]) (
 .seq (
  .reg none [⟨(some 3), none, .alc 128 1 [(.ar true 185 5 [])]⟩]) (
 .seq (
  .reg none [⟨(some 4), none, .fad 0 (.t 1)⟩,
    ⟨(some 5), none, .ld 1 false (.t 4)⟩,
    ⟨(some 6), none, .call 201 [(.t 5)]⟩,
    ⟨(some 7), none, .fad 0 (.t 3)⟩,
    ⟨none, none, .st 1 false (.t 7) (.t 6)⟩]) (
 .seq (
  .reg none [⟨(some 8), none, .ld 1 true (.t 3)⟩,
    ⟨none, none, .st 1 false (.t 2) (.t 8)⟩]) (
 .ret))))
def r_laws_toTree : Nat × List RV := (9, [.c 2 1 true])

theorem c_laws_toTree : cmpS PT PF PA (Try.prog.funcs[187]?) = some (r_laws_toTree.1, r_laws_toTree.2, stripK k_laws_toTree) := by kernel_rfl

theorem h_toTree (a : TTree) (ha : wTree a < 2 ^ 31) : CallsF Try.prog 187 [.agg (sTree a)] (.agg (rTree a)) := by
  refine Prun c_laws_toTree (by simp [r_laws_toTree]) (by simp) ?_
  unfold k_laws_toTree r_laws_toTree
  simp only [wTree] at ha
  simp [sTree]
  refine callG_F (h_toNodeS a.nodes (by omega)) (by simp) ?_
  simp [rTree]
end Go.Am
-- Run_to1
namespace Go.Am
open Go.Proofs
set_option maxHeartbeats 4000000
set_option maxRecDepth 100000
attribute [-simp] rJob_len sJob_len shr_rJob shr_sJob shrs_rJob shrs_sJob noSh_rJob mJob_wr mJob_n rOutcome_len sOutcome_len shr_rOutcome shr_sOutcome shrs_rOutcome shrs_sOutcome noSh_rOutcome mOutcome_wr mOutcome_n rTenant_len sTenant_len shr_rTenant shr_sTenant shrs_rTenant shrs_sTenant noSh_rTenant mTenant_wr mTenant_n map_rs_Slot map_rs_Err map_rs_Outcome uTenant_wr uTenant_n rConf_len sConf_len shr_rConf shr_sConf shrs_rConf shrs_sConf noSh_rConf mConf_wr mConf_n rLine_len sLine_len shr_rLine shr_sLine shrs_rLine shrs_sLine noSh_rLine mLine_wr mLine_n rStore_len sStore_len shr_rStore shr_sStore shrs_rStore shrs_sStore noSh_rStore mStore_wr mStore_n uStore_wr uStore_n noSh_sOutcome noSh_sSlot noSh_sErr noSh_tenant
-- 158 loop.example/g00485/laws.toRun
def k_laws_toRun : K :=
 .seq (
  .reg none [⟨(some 1), none, .box 156 7 (.t 0)⟩,
    ⟨(some 2), none, .alc 131 7 [(.int .i64 (0)), (.int .i64 (0)), (.int .i64 (0)), (.int .i64 (0)), (.ar true 183 2 []), (.ar true 185 5 []), (.ar true 187 3 [])]⟩]) (
 .seq (
  .reg none [⟨(some 3), none, .alc 131 7 [(.int .i64 (0)), (.int .i64 (0)), (.int .i64 (0)), (.int .i64 (0)), (.ar true 183 2 []), (.ar true 185 5 []), (.ar true 187 3 [])]⟩]) (
 .seq (
  .reg none [⟨(some 4), none, .fad 0 (.t 1)⟩,
    ⟨(some 5), none, .ld 1 false (.t 4)⟩,
    ⟨(some 6), none, .fad 0 (.t 3)⟩,
    ⟨none, none, .st 1 false (.t 6) (.t 5)⟩]) (
 .seq (
  .reg none [⟨(some 7), none, .fad 1 (.t 1)⟩,
    ⟨(some 8), none, .ld 1 false (.t 7)⟩,
    ⟨(some 9), none, .fad 1 (.t 3)⟩,
    ⟨none, none, .st 1 false (.t 9) (.t 8)⟩]) (
 .seq (
  .reg none [⟨(some 10), none, .fad 2 (.t 1)⟩,
    ⟨(some 11), none, .ld 1 false (.t 10)⟩,
    ⟨(some 12), none, .fad 2 (.t 3)⟩,
    ⟨none, none, .st 1 false (.t 12) (.t 11)⟩]) (
 .seq (
  .reg none [⟨(some 13), none, .fad 3 (.t 1)⟩,
    ⟨(some 14), none, .ld 1 false (.t 13)⟩,
    ⟨(some 15), none, .fad 3 (.t 3)⟩,
    ⟨none, none, .st 1 false (.t 15) (.t 14)⟩]) (
 .seq (
  .reg none [⟨(some 16), none, .fad 4 (.t 1)⟩,
    ⟨(some 17), none, .ld 1 false (.t 16)⟩,
    ⟨(some 18), none, .call 186 [(.t 17)]⟩,
    ⟨(some 19), none, .fad 4 (.t 3)⟩,
    ⟨none, none, .st 1 false (.t 19) (.t 18)⟩]) (
 .seq (
  .reg none [⟨(some 20), none, .fad 5 (.t 1)⟩,
    ⟨(some 21), none, .ld 1 true (.t 20)⟩,
    ⟨(some 22), none, .call 187 [(.t 21)]⟩,
    ⟨(some 23), none, .fad 5 (.t 3)⟩,
    ⟨none, none, .st 1 false (.t 23) (.t 22)⟩]) (
 .seq (
  .reg none [⟨(some 24), none, .fad 6 (.t 1)⟩,
    ⟨(some 25), none, .ld 1 false (.t 24)⟩,
    ⟨(some 26), none, .call 188 [(.t 25)]⟩,
    ⟨(some 27), none, .fad 6 (.t 3)⟩,
    ⟨none, none, .st 1 false (.t 27) (.t 26)⟩]) (
 .seq (
  .reg none [⟨(some 28), none, .ld 7 true (.t 3)⟩,
    ⟨none, none, .st 7 false (.t 2) (.t 28)⟩]) (
 .ret))))))))))
def r_laws_toRun : Nat × List RV := (29, [.c 2 7 true])

theorem c_laws_toRun : cmpS PT PF PA (Try.prog.funcs[158]?) = some (r_laws_toRun.1, r_laws_toRun.2, stripK k_laws_toRun) := by kernel_rfl

theorem h_toRun (a : TRun) (ha : wRun a < 2 ^ 31) : CallsF Try.prog 158 [.agg (sRun a)] (.agg (rRun a)) := by
  refine Prun c_laws_toRun (by simp [r_laws_toRun]) (by simp) ?_
  unfold k_laws_toRun r_laws_toRun
  simp only [wRun] at ha
  simp [sRun]
  refine callG_F (h_toSlotS a.slots (by omega)) (by simp) ?_
  simp
  refine callG_F (h_toTree a.tree (by omega)) (by simp [rTree]) ?_
  simp [rTree]
  refine callG_F (h_toErrS a.errs (by omega)) (by simp) ?_
  simp [rRun]
end Go.Am
-- Job_to1
namespace Go.Am
open Go.Proofs
set_option maxHeartbeats 4000000
set_option maxRecDepth 100000
attribute [-simp] rOutcome_len sOutcome_len shr_rOutcome shr_sOutcome shrs_rOutcome shrs_sOutcome noSh_rOutcome mOutcome_wr mOutcome_n rTenant_len sTenant_len shr_rTenant shr_sTenant shrs_rTenant shrs_sTenant noSh_rTenant mTenant_wr mTenant_n map_rs_Slot map_rs_Err map_rs_Outcome uTenant_wr uTenant_n rConf_len sConf_len shr_rConf shr_sConf shrs_rConf shrs_sConf noSh_rConf mConf_wr mConf_n rLine_len sLine_len shr_rLine shr_sLine shrs_rLine shrs_sLine noSh_rLine mLine_wr mLine_n rStore_len sStore_len shr_rStore shr_sStore shrs_rStore shrs_sStore noSh_rStore mStore_wr mStore_n uStore_wr uStore_n noSh_sOutcome noSh_sSlot noSh_sErr noSh_tenant
-- 122 loop.example/g00485/laws.toJob
def k_laws_toJob : K :=
 .seq (
  .reg none [⟨(some 1), none, .box 158 10 (.t 0)⟩,
    ⟨(some 2), none, .alc 133 10 [(.int .i64 (0)), (.int .i64 (0)), (.ar true 3 1 []), (.int .i64 (0)), (.int .i64 (0)), (.int .i64 (0)), (.int .i64 (0)), (.ar true 183 2 []), (.ar true 185 5 []), (.ar true 187 3 [])]⟩]) (
 .seq (
  .reg none [⟨(some 3), none, .alc 133 10 [(.int .i64 (0)), (.int .i64 (0)), (.ar true 3 1 []), (.int .i64 (0)), (.int .i64 (0)), (.int .i64 (0)), (.int .i64 (0)), (.ar true 183 2 []), (.ar true 185 5 []), (.ar true 187 3 [])]⟩]) (
 .seq (
  .reg none [⟨(some 4), none, .fad 0 (.t 1)⟩,
    ⟨(some 5), none, .ld 1 false (.t 4)⟩,
    ⟨(some 6), none, .fad 0 (.t 3)⟩,
    ⟨none, none, .st 1 false (.t 6) (.t 5)⟩]) (
 .seq (
  .reg none [⟨(some 7), none, .fad 1 (.t 1)⟩,
    ⟨(some 8), none, .ld 1 false (.t 7)⟩,
    ⟨(some 9), none, .fad 1 (.t 3)⟩,
    ⟨none, none, .st 1 false (.t 9) (.t 8)⟩]) (
 .seq (
  .reg none [⟨(some 10), none, .fad 2 (.t 1)⟩,
    ⟨(some 11), none, .ld 1 false (.t 10)⟩,
    ⟨(some 12), none, .call 18 [(.t 11)]⟩,
    ⟨(some 13), none, .fad 2 (.t 3)⟩,
    ⟨none, none, .st 1 false (.t 13) (.t 12)⟩]) (
 .seq (
  .reg none [⟨(some 14), none, .fad 3 (.t 1)⟩,
    ⟨(some 15), none, .ld 7 true (.t 14)⟩,
    ⟨(some 16), none, .call 158 [(.t 15)]⟩,
    ⟨(some 17), none, .fad 3 (.t 3)⟩,
    ⟨none, none, .st 7 false (.t 17) (.t 16)⟩]) (
 .seq (
  .reg none [⟨(some 18), none, .ld 10 true (.t 3)⟩,
    ⟨none, none, .st 10 false (.t 2) (.t 18)⟩]) (
 .ret)))))))
def r_laws_toJob : Nat × List RV := (19, [.c 2 10 true])

theorem c_laws_toJob : cmpS PT PF PA (Try.prog.funcs[122]?) = some (r_laws_toJob.1, r_laws_toJob.2, stripK k_laws_toJob) := by kernel_rfl

theorem h_toJob (a : TJob) (ha : wJob a < 2 ^ 31) : CallsF Try.prog 122 [.agg (sJob a)] (.agg (rJob a)) := by
  refine Prun c_laws_toJob (by simp [r_laws_toJob]) (by simp) ?_
  unfold k_laws_toJob r_laws_toJob
  simp only [wJob] at ha
  simp [sJob]
  refine callG_F (h_toIntS a.input (by omega)) (by simp) ?_
  simp
  refine callG_F (h_toRun a.run (by omega)) (by simp [rRun]) ?_
  simp [rJob, rRun]
end Go.Am
-- Job_to
namespace Go.Am
open Go.Proofs
set_option maxHeartbeats 4000000
set_option maxRecDepth 100000
attribute [-simp] rOutcome_len sOutcome_len shr_rOutcome shr_sOutcome shrs_rOutcome shrs_sOutcome noSh_rOutcome mOutcome_wr mOutcome_n rTenant_len sTenant_len shr_rTenant shr_sTenant shrs_rTenant shrs_sTenant noSh_rTenant mTenant_wr mTenant_n map_rs_Slot map_rs_Err map_rs_Outcome uTenant_wr uTenant_n rConf_len sConf_len shr_rConf shr_sConf shrs_rConf shrs_sConf noSh_rConf mConf_wr mConf_n rLine_len sLine_len shr_rLine shr_sLine shrs_rLine shrs_sLine noSh_rLine mLine_wr mLine_n rStore_len sStore_len shr_rStore shr_sStore shrs_rStore shrs_sStore noSh_rStore mStore_wr mStore_n uStore_wr uStore_n noSh_sOutcome noSh_sSlot noSh_sErr noSh_tenant
-- 67 loop.example/g00485/laws.toJobS
def k_laws_toJobS : K :=
 .seq (
  .reg none [⟨(some 2), none, .asn (.c (.ar true 133 10 []))⟩]) (
 .seq (
  .reg none [⟨(some 5), none, .mv (.t 0)⟩,
    ⟨(some 6), none, .len (.t 5)⟩,
    ⟨(some 7), none, .mks 133 10 144 [(.int .i64 (0)), (.int .i64 (0)), (.ar true 3 1 []), (.int .i64 (0)), (.int .i64 (0)), (.int .i64 (0)), (.int .i64 (0)), (.ar true 183 2 []), (.ar true 185 5 []), (.ar true 187 3 [])] (.t 6) (.t 6)⟩,
    ⟨(some 3), none, .asn (.t 7)⟩]) (
 .seq (
  .seq (
   .reg none [⟨(some 4), none, .asn (.c (.int .i64 (0)))⟩]) (
  .block 0 (
   .loop (some ([0, 3, 4], [0, 3, 4, 1000])) (
    .seq (
     .seq (
      .reg none [⟨(some 8), none, .mv (.t 4)⟩,
        ⟨(some 9), none, .mv (.t 0)⟩,
        ⟨(some 10), none, .len (.t 9)⟩,
        ⟨(some 11), none, .bin .lss (.t 8) (.t 10)⟩]) (
     .cond (.t 11) (
      .skip) (
      .exit 0))) (
    .seq (
     .block 1 (
      .reg none [⟨(some 14), none, .mv (.t 3)⟩,
        ⟨(some 15), none, .mv (.t 4)⟩,
        ⟨(some 16), none, .mv (.t 0)⟩,
        ⟨(some 17), none, .mv (.t 4)⟩,
        ⟨(some 18), none, .iad 10 (.t 16) (.t 17)⟩,
        ⟨(some 19), none, .ld 10 true (.t 18)⟩,
        ⟨(some 20), none, .call 122 [(.t 19)]⟩,
        ⟨(some 21), none, .iad 10 (.t 14) (.t 15)⟩,
        ⟨none, none, .st 10 false (.t 21) (.t 20)⟩])) (
    .reg none [⟨(some 12), none, .mv (.t 4)⟩,
      ⟨(some 13), none, .bin .add (.t 12) (.c (.int .i64 (1)))⟩,
      ⟨(some 4), none, .asn (.t 13)⟩])))))) (
 .seq (
  .reg none [⟨(some 22), none, .mv (.t 3)⟩,
    ⟨(some 2), none, .asn (.t 22)⟩]) (
 .ret))))
def r_laws_toJobS : Nat × List RV := (23, [.t 2])

theorem c_laws_toJobS : cmpS PT PF PA (Try.prog.funcs[67]?) = some (r_laws_toJobS.1, r_laws_toJobS.2, stripK k_laws_toJobS) := by kernel_rfl

theorem h_toJobS (xs : List TJob) (hx : wL wJob xs < 2 ^ 31) : CallsF Try.prog 67 [.one (.ar false 0 10 (xs.map sJob))] (.one (.ar true 133 10 (xs.map rJob))) := by
  refine Prun c_laws_toJobS (by simp [r_laws_toJobS]) (by simp) ?_
  unfold k_laws_toJobS r_laws_toJobS
  have hlen := wL_len wJob xs
  have hc : ((xs.length : Int) ≤ 4294967296) := by omega
  simp [hc]
  refine awp_loop (fun n σ => ∃ i : Nat, i ≤ xs.length ∧ n = xs.length - i ∧ σ = ⟨[(0, .one (.ar false 0 10 (xs.map sJob))), (3, .one (.vw 133 10 3 [] 0 xs.length)), (4, aI i)], [(3, ⟨133, 10, part rJob zJob xs i⟩)]⟩) (xs.length) ⟨0, by simp [part_zero, zJob]⟩ ?_
  rintro n σ ⟨i, hi, rfl, rfl⟩
  by_cases h : i < xs.length
  · have hw := wL_get wJob xs i h
    have := part_set (r := rJob) (z := zJob) h
    simp [h, sJob]
    refine callG_F (h_toJob xs[i] (by omega)) (by simp) ?_
    simp [h, part_get h, rJob, zJob]
    refine ⟨xs.length - (i + 1), by omega, i + 1, by omega, rfl, ?_⟩
    rw [wrapI (by omega) (by omega)]
    simp only [rJob, zJob] at this
    simp [rJob, zJob, this]
  · have : i = xs.length := by omega
    subst this
    simp [part_all]
end Go.Am
-- Outcome_to1
namespace Go.Am
open Go.Proofs
set_option maxHeartbeats 4000000
set_option maxRecDepth 100000
attribute [-simp] rErr_len sErr_len shr_rErr shr_sErr shrs_rErr shrs_sErr noSh_rErr mErr_wr mErr_n rSlot_len sSlot_len shr_rSlot shr_sSlot shrs_rSlot shrs_sSlot noSh_rSlot mSlot_wr mSlot_n rNode_len sNode_len shr_rNode shr_sNode shrs_rNode shrs_sNode noSh_rNode mNode_wr mNode_n rTree_len sTree_len shr_rTree shr_sTree shrs_rTree shrs_sTree noSh_rTree mTree_wr mTree_n rRun_len sRun_len shr_rRun shr_sRun shrs_rRun shrs_sRun noSh_rRun mRun_wr mRun_n rJob_len sJob_len shr_rJob shr_sJob shrs_rJob shrs_sJob noSh_rJob mJob_wr mJob_n rTenant_len sTenant_len shr_rTenant shr_sTenant shrs_rTenant shrs_sTenant noSh_rTenant mTenant_wr mTenant_n map_rs_Slot map_rs_Err map_rs_Outcome uTenant_wr uTenant_n rConf_len sConf_len shr_rConf shr_sConf shrs_rConf shrs_sConf noSh_rConf mConf_wr mConf_n rLine_len sLine_len shr_rLine shr_sLine shrs_rLine shrs_sLine noSh_rLine mLine_wr mLine_n rStore_len sStore_len shr_rStore shr_sStore shrs_rStore shrs_sStore noSh_rStore mStore_wr mStore_n uStore_wr uStore_n noSh_sOutcome noSh_sSlot noSh_sErr noSh_tenant
-- 123 loop.example/g00485/laws.toOutcome
def k_laws_toOutcome : K :=
 .seq (
  .reg none [⟨(some 1), none, .box 160 3 (.t 0)⟩,
    ⟨(some 2), none, .alc 102 3 [(.int .i64 (0)), (.int .i64 (0)), (.str ⟨#[]⟩)]⟩]) (
 .seq (
  .reg none [⟨(some 3), none, .alc 102 3 [(.int .i64 (0)), (.int .i64 (0)), (.str ⟨#[]⟩)]⟩]) (
 .seq (
  .reg none [⟨(some 4), none, .fad 0 (.t 1)⟩,
    ⟨(some 5), none, .ld 1 false (.t 4)⟩,
    ⟨(some 6), none, .fad 0 (.t 3)⟩,
    ⟨none, none, .st 1 false (.t 6) (.t 5)⟩]) (
 .seq (
  .reg none [⟨(some 7), none, .fad 1 (.t 1)⟩,
    ⟨(some 8), none, .ld 1 false (.t 7)⟩,
    ⟨(some 9), none, .fad 1 (.t 3)⟩,
    ⟨none, none, .st 1 false (.t 9) (.t 8)⟩]) (
 .seq (
  .reg none [⟨(some 10), none, .fad 2 (.t 1)⟩,
    ⟨(some 11), none, .ld 1 false (.t 10)⟩,
    ⟨(some 12), none, .fad 2 (.t 3)⟩,
    ⟨none, none, .st 1 false (.t 12) (.t 11)⟩]) (
 .seq (
  .reg none [⟨(some 13), none, .ld 3 true (.t 3)⟩,
    ⟨none, none, .st 3 false (.t 2) (.t 13)⟩]) (
 .ret))))))
def r_laws_toOutcome : Nat × List RV := (14, [.c 2 3 true])

theorem c_laws_toOutcome : cmpS PT PF PA (Try.prog.funcs[123]?) = some (r_laws_toOutcome.1, r_laws_toOutcome.2, stripK k_laws_toOutcome) := by kernel_rfl

theorem h_toOutcome (a : TOutcome) (ha : wOutcome a < 2 ^ 31) : CallsF Try.prog 123 [.agg (sOutcome a)] (.agg (rOutcome a)) := by
  refine Prun c_laws_toOutcome (by simp [r_laws_toOutcome]) (by simp) ?_
  unfold k_laws_toOutcome r_laws_toOutcome
  simp only [wOutcome] at ha
  simp [sOutcome, rOutcome]
end Go.Am
-- Outcome_to
namespace Go.Am
open Go.Proofs
set_option maxHeartbeats 4000000
set_option maxRecDepth 100000
attribute [-simp] rErr_len sErr_len shr_rErr shr_sErr shrs_rErr shrs_sErr noSh_rErr mErr_wr mErr_n rSlot_len sSlot_len shr_rSlot shr_sSlot shrs_rSlot shrs_sSlot noSh_rSlot mSlot_wr mSlot_n rNode_len sNode_len shr_rNode shr_sNode shrs_rNode shrs_sNode noSh_rNode mNode_wr mNode_n rTree_len sTree_len shr_rTree shr_sTree shrs_rTree shrs_sTree noSh_rTree mTree_wr mTree_n rRun_len sRun_len shr_rRun shr_sRun shrs_rRun shrs_sRun noSh_rRun mRun_wr mRun_n rJob_len sJob_len shr_rJob shr_sJob shrs_rJob shrs_sJob noSh_rJob mJob_wr mJob_n rTenant_len sTenant_len shr_rTenant shr_sTenant shrs_rTenant shrs_sTenant noSh_rTenant mTenant_wr mTenant_n map_rs_Slot map_rs_Err map_rs_Outcome uTenant_wr uTenant_n rConf_len sConf_len shr_rConf shr_sConf shrs_rConf shrs_sConf noSh_rConf mConf_wr mConf_n rLine_len sLine_len shr_rLine shr_sLine shrs_rLine shrs_sLine noSh_rLine mLine_wr mLine_n rStore_len sStore_len shr_rStore shr_sStore shrs_rStore shrs_sStore noSh_rStore mStore_wr mStore_n uStore_wr uStore_n noSh_sOutcome noSh_sSlot noSh_sErr noSh_tenant
-- 68 loop.example/g00485/laws.toOutcomeS
def k_laws_toOutcomeS : K :=
 .seq (
  .reg none [⟨(some 2), none, .asn (.c (.ar true 102 3 []))⟩]) (
 .seq (
  .reg none [⟨(some 5), none, .mv (.t 0)⟩,
    ⟨(some 6), none, .len (.t 5)⟩,
    ⟨(some 7), none, .mks 102 3 32 [(.int .i64 (0)), (.int .i64 (0)), (.str ⟨#[]⟩)] (.t 6) (.t 6)⟩,
    ⟨(some 3), none, .asn (.t 7)⟩]) (
 .seq (
  .seq (
   .reg none [⟨(some 4), none, .asn (.c (.int .i64 (0)))⟩]) (
  .block 0 (
   .loop (some ([0, 3, 4], [0, 3, 4, 1000])) (
    .seq (
     .seq (
      .reg none [⟨(some 8), none, .mv (.t 4)⟩,
        ⟨(some 9), none, .mv (.t 0)⟩,
        ⟨(some 10), none, .len (.t 9)⟩,
        ⟨(some 11), none, .bin .lss (.t 8) (.t 10)⟩]) (
     .cond (.t 11) (
      .skip) (
      .exit 0))) (
    .seq (
     .block 1 (
      .reg none [⟨(some 14), none, .mv (.t 3)⟩,
        ⟨(some 15), none, .mv (.t 4)⟩,
        ⟨(some 16), none, .mv (.t 0)⟩,
        ⟨(some 17), none, .mv (.t 4)⟩,
        ⟨(some 18), none, .iad 3 (.t 16) (.t 17)⟩,
        ⟨(some 19), none, .ld 3 true (.t 18)⟩,
        ⟨(some 20), none, .call 123 [(.t 19)]⟩,
        ⟨(some 21), none, .iad 3 (.t 14) (.t 15)⟩,
        ⟨none, none, .st 3 false (.t 21) (.t 20)⟩])) (
    .reg none [⟨(some 12), none, .mv (.t 4)⟩,
      ⟨(some 13), none, .bin .add (.t 12) (.c (.int .i64 (1)))⟩,
      ⟨(some 4), none, .asn (.t 13)⟩])))))) (
 .seq (
  .reg none [⟨(some 22), none, .mv (.t 3)⟩,
    ⟨(some 2), none, .asn (.t 22)⟩]) (
 .ret))))
def r_laws_toOutcomeS : Nat × List RV := (23, [.t 2])

theorem c_laws_toOutcomeS : cmpS PT PF PA (Try.prog.funcs[68]?) = some (r_laws_toOutcomeS.1, r_laws_toOutcomeS.2, stripK k_laws_toOutcomeS) := by kernel_rfl

theorem h_toOutcomeS (xs : List TOutcome) (hx : wL wOutcome xs < 2 ^ 31) : CallsF Try.prog 68 [.one (.ar false 0 3 (xs.map sOutcome))] (.one (.ar true 102 3 (xs.map rOutcome))) := by
  refine Prun c_laws_toOutcomeS (by simp [r_laws_toOutcomeS]) (by simp) ?_
  unfold k_laws_toOutcomeS r_laws_toOutcomeS
  have hlen := wL_len wOutcome xs
  have hc : ((xs.length : Int) ≤ 4294967296) := by omega
  simp [hc]
  refine awp_loop (fun n σ => ∃ i : Nat, i ≤ xs.length ∧ n = xs.length - i ∧ σ = ⟨[(0, .one (.ar false 0 3 (xs.map sOutcome))), (3, .one (.vw 102 3 3 [] 0 xs.length)), (4, aI i)], [(3, ⟨102, 3, part rOutcome zOutcome xs i⟩)]⟩) (xs.length) ⟨0, by simp [part_zero, zOutcome]⟩ ?_
  rintro n σ ⟨i, hi, rfl, rfl⟩
  by_cases h : i < xs.length
  · have hw := wL_get wOutcome xs i h
    have := part_set (r := rOutcome) (z := zOutcome) h
    simp [h, sOutcome]
    refine callG_F (h_toOutcome xs[i] (by omega)) (by simp) ?_
    simp [h, part_get h, rOutcome, zOutcome]
    refine ⟨xs.length - (i + 1), by omega, i + 1, by omega, rfl, ?_⟩
    rw [wrapI (by omega) (by omega)]
    simp only [rOutcome, zOutcome] at this
    simp [rOutcome, zOutcome, this]
  · have : i = xs.length := by omega
    subst this
    simp [part_all]
end Go.Am
-- Tenant_to1
namespace Go.Am
open Go.Proofs
set_option maxHeartbeats 4000000
set_option maxRecDepth 100000
attribute [-simp] map_rs_Slot map_rs_Err map_rs_Outcome uTenant_wr uTenant_n rConf_len sConf_len shr_rConf shr_sConf shrs_rConf shrs_sConf noSh_rConf mConf_wr mConf_n rLine_len sLine_len shr_rLine shr_sLine shrs_rLine shrs_sLine noSh_rLine mLine_wr mLine_n rStore_len sStore_len shr_rStore shr_sStore shrs_rStore shrs_sStore noSh_rStore mStore_wr mStore_n uStore_wr uStore_n noSh_sOutcome noSh_sSlot noSh_sErr noSh_tenant
-- 29 loop.example/g00485/laws.toTenant
def k_laws_toTenant : K :=
 .seq (
  .reg none [⟨(some 1), none, .box 52 10 (.t 0)⟩,
    ⟨(some 2), none, .alc 25 10 [(.int .i64 (0)), (.int .i64 (0)), (.int .i64 (0)), (.int .i64 (0)), (.int .i64 (0)), (.int .i64 (0)), (.int .i64 (0)), (.int .i64 (0)), (.ar true 133 10 []), (.ar true 102 3 [])]⟩]) (
 .seq (
  .reg none [⟨(some 3), none, .alc 25 10 [(.int .i64 (0)), (.int .i64 (0)), (.int .i64 (0)), (.int .i64 (0)), (.int .i64 (0)), (.int .i64 (0)), (.int .i64 (0)), (.int .i64 (0)), (.ar true 133 10 []), (.ar true 102 3 [])]⟩]) (
 .seq (
  .reg none [⟨(some 4), none, .fad 0 (.t 1)⟩,
    ⟨(some 5), none, .ld 1 false (.t 4)⟩,
    ⟨(some 6), none, .fad 0 (.t 3)⟩,
    ⟨none, none, .st 1 false (.t 6) (.t 5)⟩]) (
 .seq (
  .reg none [⟨(some 7), none, .fad 1 (.t 1)⟩,
    ⟨(some 8), none, .ld 1 false (.t 7)⟩,
    ⟨(some 9), none, .fad 1 (.t 3)⟩,
    ⟨none, none, .st 1 false (.t 9) (.t 8)⟩]) (
 .seq (
  .reg none [⟨(some 10), none, .fad 2 (.t 1)⟩,
    ⟨(some 11), none, .ld 1 false (.t 10)⟩,
    ⟨(some 12), none, .fad 2 (.t 3)⟩,
    ⟨none, none, .st 1 false (.t 12) (.t 11)⟩]) (
 .seq (
  .reg none [⟨(some 13), none, .fad 3 (.t 1)⟩,
    ⟨(some 14), none, .ld 1 false (.t 13)⟩,
    ⟨(some 15), none, .fad 3 (.t 3)⟩,
    ⟨none, none, .st 1 false (.t 15) (.t 14)⟩]) (
 .seq (
  .reg none [⟨(some 16), none, .fad 4 (.t 1)⟩,
    ⟨(some 17), none, .ld 1 false (.t 16)⟩,
    ⟨(some 18), none, .fad 4 (.t 3)⟩,
    ⟨none, none, .st 1 false (.t 18) (.t 17)⟩]) (
 .seq (
  .reg none [⟨(some 19), none, .fad 5 (.t 1)⟩,
    ⟨(some 20), none, .ld 1 false (.t 19)⟩,
    ⟨(some 21), none, .fad 5 (.t 3)⟩,
    ⟨none, none, .st 1 false (.t 21) (.t 20)⟩]) (
 .seq (
  .reg none [⟨(some 22), none, .fad 6 (.t 1)⟩,
    ⟨(some 23), none, .ld 1 false (.t 22)⟩,
    ⟨(some 24), none, .fad 6 (.t 3)⟩,
    ⟨none, none, .st 1 false (.t 24) (.t 23)⟩]) (
 .seq (
  .reg none [⟨(some 25), none, .fad 7 (.t 1)⟩,
    ⟨(some 26), none, .ld 1 false (.t 25)⟩,
    ⟨(some 27), none, .fad 7 (.t 3)⟩,
    ⟨none, none, .st 1 false (.t 27) (.t 26)⟩]) (
 .seq (
  .reg none [⟨(some 28), none, .fad 8 (.t 1)⟩,
    ⟨(some 29), none, .ld 1 false (.t 28)⟩,
    ⟨(some 30), none, .call 67 [(.t 29)]⟩,
    ⟨(some 31), none, .fad 8 (.t 3)⟩,
    ⟨none, none, .st 1 false (.t 31) (.t 30)⟩]) (
 .seq (
  .reg none [⟨(some 32), none, .fad 9 (.t 1)⟩,
    ⟨(some 33), none, .ld 1 false (.t 32)⟩,
    ⟨(some 34), none, .call 68 [(.t 33)]⟩,
    ⟨(some 35), none, .fad 9 (.t 3)⟩,
    ⟨none, none, .st 1 false (.t 35) (.t 34)⟩]) (
 .seq (
  .reg none [⟨(some 36), none, .ld 10 true (.t 3)⟩,
    ⟨none, none, .st 10 false (.t 2) (.t 36)⟩]) (
 .ret)))))))))))))
def r_laws_toTenant : Nat × List RV := (37, [.c 2 10 true])

theorem c_laws_toTenant : cmpS PT PF PA (Try.prog.funcs[29]?) = some (r_laws_toTenant.1, r_laws_toTenant.2, stripK k_laws_toTenant) := by kernel_rfl

theorem h_toTenant (a : TTenant) (ha : wTenant a < 2 ^ 31) : CallsF Try.prog 29 [.agg (sTenant a)] (.agg (rTenant a)) := by
  refine Prun c_laws_toTenant (by simp [r_laws_toTenant]) (by simp) ?_
  unfold k_laws_toTenant r_laws_toTenant
  simp only [wTenant] at ha
  simp [sTenant]
  refine callG_F (h_toJobS a.queue (by omega)) (by simp) ?_
  simp
  refine callG_F (h_toOutcomeS a.out (by omega)) (by simp) ?_
  simp [rTenant]
end Go.Am
-- Err_sz
namespace Go.Am
open Go.Proofs
set_option maxHeartbeats 4000000
set_option maxRecDepth 100000
attribute [-simp] rSlot_len sSlot_len shr_rSlot shr_sSlot shrs_rSlot shrs_sSlot noSh_rSlot mSlot_wr mSlot_n rNode_len sNode_len shr_rNode shr_sNode shrs_rNode shrs_sNode noSh_rNode mNode_wr mNode_n rTree_len sTree_len shr_rTree shr_sTree shrs_rTree shrs_sTree noSh_rTree mTree_wr mTree_n rRun_len sRun_len shr_rRun shr_sRun shrs_rRun shrs_sRun noSh_rRun mRun_wr mRun_n rJob_len sJob_len shr_rJob shr_sJob shrs_rJob shrs_sJob noSh_rJob mJob_wr mJob_n rOutcome_len sOutcome_len shr_rOutcome shr_sOutcome shrs_rOutcome shrs_sOutcome noSh_rOutcome mOutcome_wr mOutcome_n rTenant_len sTenant_len shr_rTenant shr_sTenant shrs_rTenant shrs_sTenant noSh_rTenant mTenant_wr mTenant_n map_rs_Slot map_rs_Err map_rs_Outcome uTenant_wr uTenant_n rConf_len sConf_len shr_rConf shr_sConf shrs_rConf shrs_sConf noSh_rConf mConf_wr mConf_n rLine_len sLine_len shr_rLine shr_sLine shrs_rLine shrs_sLine noSh_rLine mLine_wr mLine_n rStore_len sStore_len shr_rStore shr_sStore shrs_rStore shrs_sStore noSh_rStore mStore_wr mStore_n uStore_wr uStore_n noSh_sOutcome noSh_sSlot noSh_sErr noSh_tenant
-- 184 loop.example/g00485/laws.szErrS
def k_laws_szErrS : K :=
 .seq (
  .reg none [⟨(some 4), none, .asn (.c (.int .i64 (0)))⟩]) (
 .seq (
  .reg none [⟨(some 5), none, .mv (.t 1)⟩,
    ⟨(some 6), none, .mv (.t 0)⟩,
    ⟨(some 7), none, .len (.t 6)⟩,
    ⟨(some 8), none, .bin .sub (.t 5) (.t 7)⟩,
    ⟨(some 1), none, .asn (.t 8)⟩]) (
 .seq (
  .seq (
   .reg none [⟨(some 9), none, .mv (.t 1)⟩,
     ⟨(some 10), none, .bin .lss (.t 9) (.c (.int .i64 (0)))⟩]) (
  .cond (.t 10) (
   .seq (
    .reg none [⟨(some 4), none, .asn (.c (.int .i64 (-1)))⟩]) (
   .ret)) (
   .skip))) (
 .seq (
  .reg none [⟨(some 11), none, .mv (.t 1)⟩,
    ⟨(some 4), none, .asn (.t 11)⟩]) (
 .ret))))
def r_laws_szErrS : Nat × List RV := (12, [.t 4])

theorem c_laws_szErrS : cmpS PT PF PA (Try.prog.funcs[184]?) = some (r_laws_szErrS.1, r_laws_szErrS.2, stripK k_laws_szErrS) := by kernel_rfl

theorem wL_wErr : ∀ xs : List TErr, wL wErr xs = xs.length
  | [] => rfl
  | x :: xs => by rw [wL, wL_wErr xs, List.length_cons]; simp only [wErr]; omega
theorem h_szErrS (xs : List TErr) (left : Int) (h : lL lErr xs) (h2 : 0 ≤ left) (h3 : left < 2 ^ 40) : CallsF Try.prog 184 [.one (.ar false 0 3 (xs.map sErr)), aI left] (aI (lft left (wL wErr xs))) := by
  refine Prun c_laws_szErrS (by simp [r_laws_szErrS]) (by simp) ?_
  unfold k_laws_szErrS r_laws_szErrS
  have h := h.1
  rw [wL_wErr, lft]
  have hw : IntKind.i64.wrap (left - xs.length) = left - xs.length := wrapI (by omega) (by omega)
  by_cases h : left - xs.length < 0
  · simp [hw, h]
  · simp [hw, h]
end Go.Am
-- Slot_sz
namespace Go.Am
open Go.Proofs
set_option maxHeartbeats 4000000
set_option maxRecDepth 100000
attribute [-simp] rErr_len sErr_len shr_rErr shr_sErr shrs_rErr shrs_sErr noSh_rErr mErr_wr mErr_n rNode_len sNode_len shr_rNode shr_sNode shrs_rNode shrs_sNode noSh_rNode mNode_wr mNode_n rTree_len sTree_len shr_rTree shr_sTree shrs_rTree shrs_sTree noSh_rTree mTree_wr mTree_n rRun_len sRun_len shr_rRun shr_sRun shrs_rRun shrs_sRun noSh_rRun mRun_wr mRun_n rJob_len sJob_len shr_rJob shr_sJob shrs_rJob shrs_sJob noSh_rJob mJob_wr mJob_n rOutcome_len sOutcome_len shr_rOutcome shr_sOutcome shrs_rOutcome shrs_sOutcome noSh_rOutcome mOutcome_wr mOutcome_n rTenant_len sTenant_len shr_rTenant shr_sTenant shrs_rTenant shrs_sTenant noSh_rTenant mTenant_wr mTenant_n map_rs_Slot map_rs_Err map_rs_Outcome uTenant_wr uTenant_n rConf_len sConf_len shr_rConf shr_sConf shrs_rConf shrs_sConf noSh_rConf mConf_wr mConf_n rLine_len sLine_len shr_rLine shr_sLine shrs_rLine shrs_sLine noSh_rLine mLine_wr mLine_n rStore_len sStore_len shr_rStore shr_sStore shrs_rStore shrs_sStore noSh_rStore mStore_wr mStore_n uStore_wr uStore_n noSh_sOutcome noSh_sSlot noSh_sErr noSh_tenant
-- 182 loop.example/g00485/laws.szSlotS
def k_laws_szSlotS : K :=
 .seq (
  .reg none [⟨(some 4), none, .asn (.c (.int .i64 (0)))⟩]) (
 .seq (
  .reg none [⟨(some 5), none, .mv (.t 1)⟩,
    ⟨(some 6), none, .mv (.t 0)⟩,
    ⟨(some 7), none, .len (.t 6)⟩,
    ⟨(some 8), none, .bin .sub (.t 5) (.t 7)⟩,
    ⟨(some 1), none, .asn (.t 8)⟩]) (
 .seq (
  .seq (
   .reg none [⟨(some 9), none, .mv (.t 1)⟩,
     ⟨(some 10), none, .bin .lss (.t 9) (.c (.int .i64 (0)))⟩]) (
  .cond (.t 10) (
   .seq (
    .reg none [⟨(some 4), none, .asn (.c (.int .i64 (-1)))⟩]) (
   .ret)) (
   .skip))) (
 .seq (
  .reg none [⟨(some 11), none, .mv (.t 1)⟩,
    ⟨(some 4), none, .asn (.t 11)⟩]) (
 .ret))))
def r_laws_szSlotS : Nat × List RV := (12, [.t 4])

theorem c_laws_szSlotS : cmpS PT PF PA (Try.prog.funcs[182]?) = some (r_laws_szSlotS.1, r_laws_szSlotS.2, stripK k_laws_szSlotS) := by kernel_rfl

theorem wL_wSlot : ∀ xs : List TSlot, wL wSlot xs = xs.length
  | [] => rfl
  | x :: xs => by rw [wL, wL_wSlot xs, List.length_cons]; simp only [wSlot]; omega
theorem h_szSlotS (xs : List TSlot) (left : Int) (h : lL lSlot xs) (h2 : 0 ≤ left) (h3 : left < 2 ^ 40) : CallsF Try.prog 182 [.one (.ar false 0 2 (xs.map sSlot)), aI left] (aI (lft left (wL wSlot xs))) := by
  refine Prun c_laws_szSlotS (by simp [r_laws_szSlotS]) (by simp) ?_
  unfold k_laws_szSlotS r_laws_szSlotS
  have h := h.1
  rw [wL_wSlot, lft]
  have hw : IntKind.i64.wrap (left - xs.length) = left - xs.length := wrapI (by omega) (by omega)
  by_cases h : left - xs.length < 0
  · simp [hw, h]
  · simp [hw, h]
end Go.Am
-- intm
namespace Go.Am
open Go.Proofs
set_option maxHeartbeats 4000000
set_option maxRecDepth 100000
attribute [-simp] rErr_len sErr_len shr_rErr shr_sErr shrs_rErr shrs_sErr noSh_rErr mErr_wr mErr_n rSlot_len sSlot_len shr_rSlot shr_sSlot shrs_rSlot shrs_sSlot noSh_rSlot mSlot_wr mSlot_n rNode_len sNode_len shr_rNode shr_sNode shrs_rNode shrs_sNode noSh_rNode mNode_wr mNode_n rTree_len sTree_len shr_rTree shr_sTree shrs_rTree shrs_sTree noSh_rTree mTree_wr mTree_n rRun_len sRun_len shr_rRun shr_sRun shrs_rRun shrs_sRun noSh_rRun mRun_wr mRun_n rJob_len sJob_len shr_rJob shr_sJob shrs_rJob shrs_sJob noSh_rJob mJob_wr mJob_n rOutcome_len sOutcome_len shr_rOutcome shr_sOutcome shrs_rOutcome shrs_sOutcome noSh_rOutcome mOutcome_wr mOutcome_n rTenant_len sTenant_len shr_rTenant shr_sTenant shrs_rTenant shrs_sTenant noSh_rTenant mTenant_wr mTenant_n map_rs_Slot map_rs_Err map_rs_Outcome uTenant_wr uTenant_n rConf_len sConf_len shr_rConf shr_sConf shrs_rConf shrs_sConf noSh_rConf mConf_wr mConf_n rLine_len sLine_len shr_rLine shr_sLine shrs_rLine shrs_sLine noSh_rLine mLine_wr mLine_n rStore_len sStore_len shr_rStore shr_sStore shrs_rStore shrs_sStore noSh_rStore mStore_wr mStore_n uStore_wr uStore_n noSh_sOutcome noSh_sSlot noSh_sErr noSh_tenant
-- 127 loop.example/g00485/laws.szIntS
def k_laws_szIntS : K :=
 .seq (
  .reg none [⟨(some 4), none, .asn (.c (.int .i64 (0)))⟩]) (
 .seq (
  .reg none [⟨(some 5), none, .mv (.t 1)⟩,
    ⟨(some 6), none, .mv (.t 0)⟩,
    ⟨(some 7), none, .len (.t 6)⟩,
    ⟨(some 8), none, .bin .sub (.t 5) (.t 7)⟩,
    ⟨(some 1), none, .asn (.t 8)⟩]) (
 .seq (
  .seq (
   .reg none [⟨(some 9), none, .mv (.t 1)⟩,
     ⟨(some 10), none, .bin .lss (.t 9) (.c (.int .i64 (0)))⟩]) (
  .cond (.t 10) (
   .seq (
    .reg none [⟨(some 4), none, .asn (.c (.int .i64 (-1)))⟩]) (
   .ret)) (
   .skip))) (
 .seq (
  .reg none [⟨(some 11), none, .mv (.t 1)⟩,
    ⟨(some 4), none, .asn (.t 11)⟩]) (
 .ret))))
def r_laws_szIntS : Nat × List RV := (12, [.t 4])

theorem c_laws_szIntS : cmpS PT PF PA (Try.prog.funcs[127]?) = some (r_laws_szIntS.1, r_laws_szIntS.2, stripK k_laws_szIntS) := by kernel_rfl

theorem h_szIntS (xs : List Int) (left : Int) (h : lL l0 xs) (h2 : 0 ≤ left) (h3 : left < 2 ^ 40) : CallsF Try.prog 127 [.one (.ar false 0 1 (xs.map rI)), aI left] (aI (lft left (wL w0 xs))) := by
  refine Prun c_laws_szIntS (by simp [r_laws_szIntS]) (by simp) ?_
  unfold k_laws_szIntS r_laws_szIntS
  have h := h.1
  rw [wL_w0, lft]
  have hw : IntKind.i64.wrap (left - xs.length) = left - xs.length := wrapI (by omega) (by omega)
  by_cases h : left - xs.length < 0
  · simp [hw, h]
  · simp [hw, h]
end Go.Am
-- Node_sz1
namespace Go.Am
open Go.Proofs
set_option maxHeartbeats 4000000
set_option maxRecDepth 100000
attribute [-simp] rErr_len sErr_len shr_rErr shr_sErr shrs_rErr shrs_sErr noSh_rErr mErr_wr mErr_n rSlot_len sSlot_len shr_rSlot shr_sSlot shrs_rSlot shrs_sSlot noSh_rSlot mSlot_wr mSlot_n rTree_len sTree_len shr_rTree shr_sTree shrs_rTree shrs_sTree noSh_rTree mTree_wr mTree_n rRun_len sRun_len shr_rRun shr_sRun shrs_rRun shrs_sRun noSh_rRun mRun_wr mRun_n rJob_len sJob_len shr_rJob shr_sJob shrs_rJob shrs_sJob noSh_rJob mJob_wr mJob_n rOutcome_len sOutcome_len shr_rOutcome shr_sOutcome shrs_rOutcome shrs_sOutcome noSh_rOutcome mOutcome_wr mOutcome_n rTenant_len sTenant_len shr_rTenant shr_sTenant shrs_rTenant shrs_sTenant noSh_rTenant mTenant_wr mTenant_n map_rs_Slot map_rs_Err map_rs_Outcome uTenant_wr uTenant_n rConf_len sConf_len shr_rConf shr_sConf shrs_rConf shrs_sConf noSh_rConf mConf_wr mConf_n rLine_len sLine_len shr_rLine shr_sLine shrs_rLine shrs_sLine noSh_rLine mLine_wr mLine_n rStore_len sStore_len shr_rStore shr_sStore shrs_rStore shrs_sStore noSh_rStore mStore_wr mStore_n uStore_wr uStore_n noSh_sOutcome noSh_sSlot noSh_sErr noSh_tenant
-- 212 loop.example/g00485/laws.szNode
def k_laws_szNode : K :=
 .seq (
  .reg none [⟨(some 2), none, .box 244 5 (.t 0)⟩,
    ⟨(some 4), none, .asn (.c (.int .i64 (0)))⟩]) (
 .seq (
  .reg none [⟨(some 5), none, .fad 4 (.t 2)⟩,
    ⟨(some 6), none, .ld 1 false (.t 5)⟩,
    ⟨(some 7), none, .mv (.t 1)⟩,
    ⟨(some 8), none, .call 127 [(.t 6), (.t 7)]⟩,
    ⟨(some 1), none, .asn (.t 8)⟩]) (
 .seq (
  .seq (
   .reg none [⟨(some 9), none, .mv (.t 1)⟩,
     ⟨(some 10), none, .bin .lss (.t 9) (.c (.int .i64 (0)))⟩]) (
  .cond (.t 10) (
   .seq (
    .reg none [⟨(some 4), none, .asn (.c (.int .i64 (-1)))⟩]) (
   .ret)) (
   .skip))) (
 .seq (
  .reg none [⟨(some 11), none, .mv (.t 1)⟩,
    ⟨(some 4), none, .asn (.t 11)⟩]) (
 .ret))))
def r_laws_szNode : Nat × List RV := (12, [.t 4])

theorem c_laws_szNode : cmpS PT PF PA (Try.prog.funcs[212]?) = some (r_laws_szNode.1, r_laws_szNode.2, stripK k_laws_szNode) := by kernel_rfl

theorem h_szNode (a : TNode) (left : Int) (h : lNode a) (h2 : 0 ≤ left) (h3 : left < 2 ^ 40) : CallsF Try.prog 212 [.agg (sNode a), aI left] (aI (lft left (wNode a))) := by
  refine Prun c_laws_szNode (by simp [r_laws_szNode]) (by simp) ?_
  unfold k_laws_szNode r_laws_szNode
  simp only [lNode] at h
  simp only [wNode]
  have hl0 := h
  simp [sNode]
  refine callG_F (h_szIntS a.kids (left) hl0 (by omega) (by omega)) (by simp) ?_
  by_cases g0 : left < (wL w0 a.kids : Int)
  case pos => simp only [lft_neg g0]; simp; try rw [lft_neg (by omega)]
  simp only [lft_pos (show (wL w0 a.kids : Int) ≤ left by omega)]
  have n0 : ¬ left - (wL w0 a.kids : Int) < 0 := by omega
  simp [n0]
  try rw [lft_pos (by omega)]
  try omega
end Go.Am
-- Node_sz
namespace Go.Am
open Go.Proofs
set_option maxHeartbeats 4000000
set_option maxRecDepth 100000
attribute [-simp] rErr_len sErr_len shr_rErr shr_sErr shrs_rErr shrs_sErr noSh_rErr mErr_wr mErr_n rSlot_len sSlot_len shr_rSlot shr_sSlot shrs_rSlot shrs_sSlot noSh_rSlot mSlot_wr mSlot_n rTree_len sTree_len shr_rTree shr_sTree shrs_rTree shrs_sTree noSh_rTree mTree_wr mTree_n rRun_len sRun_len shr_rRun shr_sRun shrs_rRun shrs_sRun noSh_rRun mRun_wr mRun_n rJob_len sJob_len shr_rJob shr_sJob shrs_rJob shrs_sJob noSh_rJob mJob_wr mJob_n rOutcome_len sOutcome_len shr_rOutcome shr_sOutcome shrs_rOutcome shrs_sOutcome noSh_rOutcome mOutcome_wr mOutcome_n rTenant_len sTenant_len shr_rTenant shr_sTenant shrs_rTenant shrs_sTenant noSh_rTenant mTenant_wr mTenant_n map_rs_Slot map_rs_Err map_rs_Outcome uTenant_wr uTenant_n rConf_len sConf_len shr_rConf shr_sConf shrs_rConf shrs_sConf noSh_rConf mConf_wr mConf_n rLine_len sLine_len shr_rLine shr_sLine shrs_rLine shrs_sLine noSh_rLine mLine_wr mLine_n rStore_len sStore_len shr_rStore shr_sStore shrs_rStore shrs_sStore noSh_rStore mStore_wr mStore_n uStore_wr uStore_n noSh_sOutcome noSh_sSlot noSh_sErr noSh_tenant
-- 199 loop.example/g00485/laws.szNodeS
def k_laws_szNodeS : K :=
 .seq (
  .reg none [⟨(some 4), none, .asn (.c (.int .i64 (0)))⟩]) (
 .seq (
  .reg none [⟨(some 6), none, .mv (.t 1)⟩,
    ⟨(some 7), none, .mv (.t 0)⟩,
    ⟨(some 8), none, .len (.t 7)⟩,
    ⟨(some 9), none, .bin .sub (.t 6) (.t 8)⟩,
    ⟨(some 1), none, .asn (.t 9)⟩]) (
 .seq (
  .seq (
   .reg none [⟨(some 10), none, .mv (.t 1)⟩,
     ⟨(some 11), none, .bin .lss (.t 10) (.c (.int .i64 (0)))⟩]) (
  .cond (.t 11) (
   .seq (
    .reg none [⟨(some 4), none, .asn (.c (.int .i64 (-1)))⟩]) (
   .ret)) (
   .skip))) (
 .seq (
  .seq (
   .reg none [⟨(some 5), none, .asn (.c (.int .i64 (0)))⟩]) (
  .block 0 (
   .loop (some ([0, 1, 5], [0, 1, 5, 1000])) (
    .seq (
     .seq (
      .reg none [⟨(some 12), none, .mv (.t 5)⟩,
        ⟨(some 13), none, .mv (.t 0)⟩,
        ⟨(some 14), none, .len (.t 13)⟩,
        ⟨(some 15), none, .bin .lss (.t 12) (.t 14)⟩]) (
     .cond (.t 15) (
      .skip) (
      .exit 0))) (
    .seq (
     .block 1 (
      .seq (
       .reg none [⟨(some 18), none, .mv (.t 0)⟩,
         ⟨(some 19), none, .mv (.t 5)⟩,
         ⟨(some 20), none, .iad 5 (.t 18) (.t 19)⟩,
         ⟨(some 21), none, .ld 5 true (.t 20)⟩,
         ⟨(some 22), none, .mv (.t 1)⟩,
         ⟨(some 23), none, .call 212 [(.t 21), (.t 22)]⟩,
         ⟨(some 1), none, .asn (.t 23)⟩]) (
      .seq (
       .reg none [⟨(some 24), none, .mv (.t 1)⟩,
         ⟨(some 25), none, .bin .lss (.t 24) (.c (.int .i64 (0)))⟩]) (
      .cond (.t 25) (
       .seq (
        .reg none [⟨(some 4), none, .asn (.c (.int .i64 (-1)))⟩]) (
       .ret)) (
       .skip))))) (
    .reg none [⟨(some 16), none, .mv (.t 5)⟩,
      ⟨(some 17), none, .bin .add (.t 16) (.c (.int .i64 (1)))⟩,
      ⟨(some 5), none, .asn (.t 17)⟩])))))) (
 .seq (
  .reg none [⟨(some 26), none, .mv (.t 1)⟩,
    ⟨(some 4), none, .asn (.t 26)⟩]) (
 .ret)))))
def r_laws_szNodeS : Nat × List RV := (27, [.t 4])

theorem c_laws_szNodeS : cmpS PT PF PA (Try.prog.funcs[199]?) = some (r_laws_szNodeS.1, r_laws_szNodeS.2, stripK k_laws_szNodeS) := by kernel_rfl

theorem h_szNodeS (xs : List TNode) (left : Int) (hl : lL lNode xs) (h2 : 0 ≤ left) (h3 : left < 2 ^ 40) : CallsF Try.prog 199 [.one (.ar false 0 5 (xs.map sNode)), aI left] (aI (lft left (wL wNode xs))) := by
  refine Prun c_laws_szNodeS (by simp [r_laws_szNodeS]) (by simp) ?_
  unfold k_laws_szNodeS r_laws_szNodeS
  have hlen := hl.1
  have hlw := wL_len wNode xs
  have w1 : IntKind.i64.wrap (left - xs.length) = left - xs.length := wrapI (by omega) (by omega)
  by_cases h1 : left - (xs.length : Int) < 0
  · rw [lft_neg (by omega)]
    simp [w1, h1]
  simp [w1, h1]
  refine awp_loop (fun n σ => ∃ i : Nat, i ≤ xs.length ∧ n = xs.length - i ∧ (wL wNode (xs.take i) : Int) - i ≤ left - xs.length ∧ σ = ⟨[(0, .one (.ar false 0 5 (xs.map sNode))), (1, aI (left - xs.length - ((wL wNode (xs.take i) : Int) - i))), (5, aI i)], []⟩) (xs.length) ⟨0, by simp [wL]; omega⟩ ?_
  rintro n σ ⟨i, hi, rfl, hle, rfl⟩
  have hge := wL_len wNode (xs.take i)
  rw [List.length_take, Nat.min_eq_left hi] at hge
  by_cases h : i < xs.length
  · have hst := wL_take wNode h
    have hle2 := wL_take_le wNode xs (i + 1)
    have hlen2 := wL_len wNode (xs.drop (i + 1))
    have happ := wL_append wNode (xs.take (i + 1)) (xs.drop (i + 1))
    rw [List.take_append_drop] at happ
    rw [List.length_drop] at hlen2
    simp [h, sNode]
    refine callG_F (h_szNode xs[i] _ (hl.2 i h) (by omega) (by omega)) (by simp) ?_
    generalize hv : left - (xs.length : Int) - ((wL wNode (xs.take i) : Int) - i) = v at *
    by_cases h4 : v < (wNode xs[i] : Int)
    · simp only [lft_neg h4]
      rw [lft_neg (by omega)]
      simp
    · have e : lft v (wNode xs[i]) = v - wNode xs[i] := lft_pos (by omega)
      have n1 : ¬ v - (wNode xs[i] : Int) < 0 := by omega
      simp [e, n1]
      refine ⟨xs.length - (i + 1), by omega, i + 1, by omega, rfl, by omega, ?_⟩
      rw [wrapI (by omega) (by omega)]
      simp; omega
  · have : i = xs.length := by omega
    subst this
    rw [List.take_length] at hle
    rw [lft_pos (by omega)]
    simp
    omega
end Go.Am
-- Tree_sz1
namespace Go.Am
open Go.Proofs
set_option maxHeartbeats 4000000
set_option maxRecDepth 100000
attribute [-simp] rErr_len sErr_len shr_rErr shr_sErr shrs_rErr shrs_sErr noSh_rErr mErr_wr mErr_n rSlot_len sSlot_len shr_rSlot shr_sSlot shrs_rSlot shrs_sSlot noSh_rSlot mSlot_wr mSlot_n rRun_len sRun_len shr_rRun shr_sRun shrs_rRun shrs_sRun noSh_rRun mRun_wr mRun_n rJob_len sJob_len shr_rJob shr_sJob shrs_rJob shrs_sJob noSh_rJob mJob_wr mJob_n rOutcome_len sOutcome_len shr_rOutcome shr_sOutcome shrs_rOutcome shrs_sOutcome noSh_rOutcome mOutcome_wr mOutcome_n rTenant_len sTenant_len shr_rTenant shr_sTenant shrs_rTenant shrs_sTenant noSh_rTenant mTenant_wr mTenant_n map_rs_Slot map_rs_Err map_rs_Outcome uTenant_wr uTenant_n rConf_len sConf_len shr_rConf shr_sConf shrs_rConf shrs_sConf noSh_rConf mConf_wr mConf_n rLine_len sLine_len shr_rLine shr_sLine shrs_rLine shrs_sLine noSh_rLine mLine_wr mLine_n rStore_len sStore_len shr_rStore shr_sStore shrs_rStore shrs_sStore noSh_rStore mStore_wr mStore_n uStore_wr uStore_n noSh_sOutcome noSh_sSlot noSh_sErr noSh_tenant
-- 183 loop.example/g00485/laws.szTree
def k_laws_szTree : K :=
 .seq (
  .reg none [⟨(some 2), none, .box 153 1 (.t 0)⟩,
    ⟨(some 4), none, .asn (.c (.int .i64 (0)))⟩]) (
 .seq (
  .reg none [⟨(some 5), none, .fad 0 (.t 2)⟩,
    ⟨(some 6), none, .ld 1 false (.t 5)⟩,
    ⟨(some 7), none, .mv (.t 1)⟩,
    ⟨(some 8), none, .call 199 [(.t 6), (.t 7)]⟩,
    ⟨(some 1), none, .asn (.t 8)⟩]) (
 .seq (
  .seq (
   .reg none [⟨(some 9), none, .mv (.t 1)⟩,
     ⟨(some 10), none, .bin .lss (.t 9) (.c (.int .i64 (0)))⟩]) (
  .cond (.t 10) (
   .seq (
    .reg none [⟨(some 4), none, .asn (.c (.int .i64 (-1)))⟩]) (
   .ret)) (
   .skip))) (
 .seq (
  .reg none [⟨(some 11), none, .mv (.t 1)⟩,
    ⟨(some 4), none, .asn (.t 11)⟩]) (
 .ret))))
def r_laws_szTree : Nat × List RV := (12, [.t 4])

theorem c_laws_szTree : cmpS PT PF PA (Try.prog.funcs[183]?) = some (r_laws_szTree.1, r_laws_szTree.2, stripK k_laws_szTree) := by kernel_rfl

theorem h_szTree (a : TTree) (left : Int) (h : lTree a) (h2 : 0 ≤ left) (h3 : left < 2 ^ 40) : CallsF Try.prog 183 [.agg (sTree a), aI left] (aI (lft left (wTree a))) := by
  refine Prun c_laws_szTree (by simp [r_laws_szTree]) (by simp) ?_
  unfold k_laws_szTree r_laws_szTree
  simp only [lTree] at h
  simp only [wTree]
  have hl0 := h
  simp [sTree]
  refine callG_F (h_szNodeS a.nodes (left) hl0 (by omega) (by omega)) (by simp) ?_
  by_cases g0 : left < (wL wNode a.nodes : Int)
  case pos => simp only [lft_neg g0]; simp; try rw [lft_neg (by omega)]
  simp only [lft_pos (show (wL wNode a.nodes : Int) ≤ left by omega)]
  have n0 : ¬ left - (wL wNode a.nodes : Int) < 0 := by omega
  simp [n0]
  try rw [lft_pos (by omega)]
  try omega
end Go.Am
-- Run_sz1
namespace Go.Am
open Go.Proofs
set_option maxHeartbeats 4000000
set_option maxRecDepth 100000
attribute [-simp] rJob_len sJob_len shr_rJob shr_sJob shrs_rJob shrs_sJob noSh_rJob mJob_wr mJob_n rOutcome_len sOutcome_len shr_rOutcome shr_sOutcome shrs_rOutcome shrs_sOutcome noSh_rOutcome mOutcome_wr mOutcome_n rTenant_len sTenant_len shr_rTenant shr_sTenant shrs_rTenant shrs_sTenant noSh_rTenant mTenant_wr mTenant_n map_rs_Slot map_rs_Err map_rs_Outcome uTenant_wr uTenant_n rConf_len sConf_len shr_rConf shr_sConf shrs_rConf shrs_sConf noSh_rConf mConf_wr mConf_n rLine_len sLine_len shr_rLine shr_sLine shrs_rLine shrs_sLine noSh_rLine mLine_wr mLine_n rStore_len sStore_len shr_rStore shr_sStore shrs_rStore shrs_sStore noSh_rStore mStore_wr mStore_n uStore_wr uStore_n noSh_sOutcome noSh_sSlot noSh_sErr noSh_tenant
-- 156 loop.example/g00485/laws.szRun
def k_laws_szRun : K :=
 .seq (
  .reg none [⟨(some 2), none, .box 156 7 (.t 0)⟩,
    ⟨(some 4), none, .asn (.c (.int .i64 (0)))⟩]) (
 .seq (
  .reg none [⟨(some 5), none, .fad 4 (.t 2)⟩,
    ⟨(some 6), none, .ld 1 false (.t 5)⟩,
    ⟨(some 7), none, .mv (.t 1)⟩,
    ⟨(some 8), none, .call 182 [(.t 6), (.t 7)]⟩,
    ⟨(some 1), none, .asn (.t 8)⟩]) (
 .seq (
  .seq (
   .reg none [⟨(some 9), none, .mv (.t 1)⟩,
     ⟨(some 10), none, .bin .lss (.t 9) (.c (.int .i64 (0)))⟩]) (
  .cond (.t 10) (
   .seq (
    .reg none [⟨(some 4), none, .asn (.c (.int .i64 (-1)))⟩]) (
   .ret)) (
   .skip))) (
 .seq (
  .reg none [⟨(some 11), none, .fad 5 (.t 2)⟩,
    ⟨(some 12), none, .ld 1 true (.t 11)⟩,
    ⟨(some 13), none, .mv (.t 1)⟩,
    ⟨(some 14), none, .call 183 [(.t 12), (.t 13)]⟩,
    ⟨(some 1), none, .asn (.t 14)⟩]) (
 .seq (
  .seq (
   .reg none [⟨(some 15), none, .mv (.t 1)⟩,
     ⟨(some 16), none, .bin .lss (.t 15) (.c (.int .i64 (0)))⟩]) (
  .cond (.t 16) (
   .seq (
    .reg none [⟨(some 4), none, .asn (.c (.int .i64 (-1)))⟩]) (
   .ret)) (
   .skip))) (
 .seq (
  .reg none [⟨(some 17), none, .fad 6 (.t 2)⟩,
    ⟨(some 18), none, .ld 1 false (.t 17)⟩,
    ⟨(some 19), none, .mv (.t 1)⟩,
    ⟨(some 20), none, .call 184 [(.t 18), (.t 19)]⟩,
    ⟨(some 1), none, .asn (.t 20)⟩]) (
 .seq (
  .seq (
   .reg none [⟨(some 21), none, .mv (.t 1)⟩,
     ⟨(some 22), none, .bin .lss (.t 21) (.c (.int .i64 (0)))⟩]) (
  .cond (.t 22) (
   .seq (
    .reg none [⟨(some 4), none, .asn (.c (.int .i64 (-1)))⟩]) (
   .ret)) (
   .skip))) (
 .seq (
  .reg none [⟨(some 23), none, .mv (.t 1)⟩,
    ⟨(some 4), none, .asn (.t 23)⟩]) (
 .ret))))))))
def r_laws_szRun : Nat × List RV := (24, [.t 4])

theorem c_laws_szRun : cmpS PT PF PA (Try.prog.funcs[156]?) = some (r_laws_szRun.1, r_laws_szRun.2, stripK k_laws_szRun) := by kernel_rfl

theorem h_szRun (a : TRun) (left : Int) (h : lRun a) (h2 : 0 ≤ left) (h3 : left < 2 ^ 40) : CallsF Try.prog 156 [.agg (sRun a), aI left] (aI (lft left (wRun a))) := by
  refine Prun c_laws_szRun (by simp [r_laws_szRun]) (by simp) ?_
  unfold k_laws_szRun r_laws_szRun
  simp only [lRun] at h
  simp only [wRun]
  obtain ⟨hl0, hl1, hl2⟩ := h
  simp [sRun]
  refine callG_F (h_szSlotS a.slots (left) hl0 (by omega) (by omega)) (by simp) ?_
  by_cases g0 : left < (wL wSlot a.slots : Int)
  case pos => simp only [lft_neg g0]; simp; try rw [lft_neg (by omega)]
  simp only [lft_pos (show (wL wSlot a.slots : Int) ≤ left by omega)]
  have n0 : ¬ left - (wL wSlot a.slots : Int) < 0 := by omega
  simp [n0]
  refine callG_F (h_szTree a.tree (left - (wL wSlot a.slots : Int)) hl1 (by omega) (by omega)) (by simp) ?_
  by_cases g1 : left - (wL wSlot a.slots : Int) < (wTree a.tree : Int)
  case pos => simp only [lft_neg g1]; simp; try rw [lft_neg (by omega)]
  simp only [lft_pos (show (wTree a.tree : Int) ≤ left - (wL wSlot a.slots : Int) by omega)]
  have n1 : ¬ left - (wL wSlot a.slots : Int) - (wTree a.tree : Int) < 0 := by omega
  simp [n1]
  refine callG_F (h_szErrS a.errs (left - (wL wSlot a.slots : Int) - (wTree a.tree : Int)) hl2 (by omega) (by omega)) (by simp) ?_
  by_cases g2 : left - (wL wSlot a.slots : Int) - (wTree a.tree : Int) < (wL wErr a.errs : Int)
  case pos => simp only [lft_neg g2]; simp; try rw [lft_neg (by omega)]
  simp only [lft_pos (show (wL wErr a.errs : Int) ≤ left - (wL wSlot a.slots : Int) - (wTree a.tree : Int) by omega)]
  have n2 : ¬ left - (wL wSlot a.slots : Int) - (wTree a.tree : Int) - (wL wErr a.errs : Int) < 0 := by omega
  simp [n2]
  try rw [lft_pos (by omega)]
  try omega
end Go.Am
-- Job_sz1
namespace Go.Am
open Go.Proofs
set_option maxHeartbeats 4000000
set_option maxRecDepth 100000
attribute [-simp] rOutcome_len sOutcome_len shr_rOutcome shr_sOutcome shrs_rOutcome shrs_sOutcome noSh_rOutcome mOutcome_wr mOutcome_n rTenant_len sTenant_len shr_rTenant shr_sTenant shrs_rTenant shrs_sTenant noSh_rTenant mTenant_wr mTenant_n map_rs_Slot map_rs_Err map_rs_Outcome uTenant_wr uTenant_n rConf_len sConf_len shr_rConf shr_sConf shrs_rConf shrs_sConf noSh_rConf mConf_wr mConf_n rLine_len sLine_len shr_rLine shr_sLine shrs_rLine shrs_sLine noSh_rLine mLine_wr mLine_n rStore_len sStore_len shr_rStore shr_sStore shrs_rStore shrs_sStore noSh_rStore mStore_wr mStore_n uStore_wr uStore_n noSh_sOutcome noSh_sSlot noSh_sErr noSh_tenant
-- 119 loop.example/g00485/laws.szJob
def k_laws_szJob : K :=
 .seq (
  .reg none [⟨(some 2), none, .box 158 10 (.t 0)⟩,
    ⟨(some 4), none, .asn (.c (.int .i64 (0)))⟩]) (
 .seq (
  .reg none [⟨(some 5), none, .fad 2 (.t 2)⟩,
    ⟨(some 6), none, .ld 1 false (.t 5)⟩,
    ⟨(some 7), none, .mv (.t 1)⟩,
    ⟨(some 8), none, .call 127 [(.t 6), (.t 7)]⟩,
    ⟨(some 1), none, .asn (.t 8)⟩]) (
 .seq (
  .seq (
   .reg none [⟨(some 9), none, .mv (.t 1)⟩,
     ⟨(some 10), none, .bin .lss (.t 9) (.c (.int .i64 (0)))⟩]) (
  .cond (.t 10) (
   .seq (
    .reg none [⟨(some 4), none, .asn (.c (.int .i64 (-1)))⟩]) (
   .ret)) (
   .skip))) (
 .seq (
  .reg none [⟨(some 11), none, .fad 3 (.t 2)⟩,
    ⟨(some 12), none, .ld 7 true (.t 11)⟩,
    ⟨(some 13), none, .mv (.t 1)⟩,
    ⟨(some 14), none, .call 156 [(.t 12), (.t 13)]⟩,
    ⟨(some 1), none, .asn (.t 14)⟩]) (
 .seq (
  .seq (
   .reg none [⟨(some 15), none, .mv (.t 1)⟩,
     ⟨(some 16), none, .bin .lss (.t 15) (.c (.int .i64 (0)))⟩]) (
  .cond (.t 16) (
   .seq (
    .reg none [⟨(some 4), none, .asn (.c (.int .i64 (-1)))⟩]) (
   .ret)) (
   .skip))) (
 .seq (
  .reg none [⟨(some 17), none, .mv (.t 1)⟩,
    ⟨(some 4), none, .asn (.t 17)⟩]) (
 .ret))))))
def r_laws_szJob : Nat × List RV := (18, [.t 4])

theorem c_laws_szJob : cmpS PT PF PA (Try.prog.funcs[119]?) = some (r_laws_szJob.1, r_laws_szJob.2, stripK k_laws_szJob) := by kernel_rfl

theorem h_szJob (a : TJob) (left : Int) (h : lJob a) (h2 : 0 ≤ left) (h3 : left < 2 ^ 40) : CallsF Try.prog 119 [.agg (sJob a), aI left] (aI (lft left (wJob a))) := by
  refine Prun c_laws_szJob (by simp [r_laws_szJob]) (by simp) ?_
  unfold k_laws_szJob r_laws_szJob
  simp only [lJob] at h
  simp only [wJob]
  obtain ⟨hl0, hl1⟩ := h
  simp [sJob]
  refine callG_F (h_szIntS a.input (left) hl0 (by omega) (by omega)) (by simp) ?_
  by_cases g0 : left < (wL w0 a.input : Int)
  case pos => simp only [lft_neg g0]; simp; try rw [lft_neg (by omega)]
  simp only [lft_pos (show (wL w0 a.input : Int) ≤ left by omega)]
  have n0 : ¬ left - (wL w0 a.input : Int) < 0 := by omega
  simp [n0]
  refine callG_F (h_szRun a.run (left - (wL w0 a.input : Int)) hl1 (by omega) (by omega)) (by simp) ?_
  by_cases g1 : left - (wL w0 a.input : Int) < (wRun a.run : Int)
  case pos => simp only [lft_neg g1]; simp; try rw [lft_neg (by omega)]
  simp only [lft_pos (show (wRun a.run : Int) ≤ left - (wL w0 a.input : Int) by omega)]
  have n1 : ¬ left - (wL w0 a.input : Int) - (wRun a.run : Int) < 0 := by omega
  simp [n1]
  try rw [lft_pos (by omega)]
  try omega
end Go.Am
-- Job_sz
namespace Go.Am
open Go.Proofs
set_option maxHeartbeats 4000000
set_option maxRecDepth 100000
attribute [-simp] rOutcome_len sOutcome_len shr_rOutcome shr_sOutcome shrs_rOutcome shrs_sOutcome noSh_rOutcome mOutcome_wr mOutcome_n rTenant_len sTenant_len shr_rTenant shr_sTenant shrs_rTenant shrs_sTenant noSh_rTenant mTenant_wr mTenant_n map_rs_Slot map_rs_Err map_rs_Outcome uTenant_wr uTenant_n rConf_len sConf_len shr_rConf shr_sConf shrs_rConf shrs_sConf noSh_rConf mConf_wr mConf_n rLine_len sLine_len shr_rLine shr_sLine shrs_rLine shrs_sLine noSh_rLine mLine_wr mLine_n rStore_len sStore_len shr_rStore shr_sStore shrs_rStore shrs_sStore noSh_rStore mStore_wr mStore_n uStore_wr uStore_n noSh_sOutcome noSh_sSlot noSh_sErr noSh_tenant
-- 64 loop.example/g00485/laws.szJobS
def k_laws_szJobS : K :=
 .seq (
  .reg none [⟨(some 4), none, .asn (.c (.int .i64 (0)))⟩]) (
 .seq (
  .reg none [⟨(some 6), none, .mv (.t 1)⟩,
    ⟨(some 7), none, .mv (.t 0)⟩,
    ⟨(some 8), none, .len (.t 7)⟩,
    ⟨(some 9), none, .bin .sub (.t 6) (.t 8)⟩,
    ⟨(some 1), none, .asn (.t 9)⟩]) (
 .seq (
  .seq (
   .reg none [⟨(some 10), none, .mv (.t 1)⟩,
     ⟨(some 11), none, .bin .lss (.t 10) (.c (.int .i64 (0)))⟩]) (
  .cond (.t 11) (
   .seq (
    .reg none [⟨(some 4), none, .asn (.c (.int .i64 (-1)))⟩]) (
   .ret)) (
   .skip))) (
 .seq (
  .seq (
   .reg none [⟨(some 5), none, .asn (.c (.int .i64 (0)))⟩]) (
  .block 0 (
   .loop (some ([0, 1, 5], [0, 1, 5, 1000])) (
    .seq (
     .seq (
      .reg none [⟨(some 12), none, .mv (.t 5)⟩,
        ⟨(some 13), none, .mv (.t 0)⟩,
        ⟨(some 14), none, .len (.t 13)⟩,
        ⟨(some 15), none, .bin .lss (.t 12) (.t 14)⟩]) (
     .cond (.t 15) (
      .skip) (
      .exit 0))) (
    .seq (
     .block 1 (
      .seq (
       .reg none [⟨(some 18), none, .mv (.t 0)⟩,
         ⟨(some 19), none, .mv (.t 5)⟩,
         ⟨(some 20), none, .iad 10 (.t 18) (.t 19)⟩,
         ⟨(some 21), none, .ld 10 true (.t 20)⟩,
         ⟨(some 22), none, .mv (.t 1)⟩,
         ⟨(some 23), none, .call 119 [(.t 21), (.t 22)]⟩,
         ⟨(some 1), none, .asn (.t 23)⟩]) (
      .seq (
       .reg none [⟨(some 24), none, .mv (.t 1)⟩,
         ⟨(some 25), none, .bin .lss (.t 24) (.c (.int .i64 (0)))⟩]) (
      .cond (.t 25) (
       .seq (
        .reg none [⟨(some 4), none, .asn (.c (.int .i64 (-1)))⟩]) (
       .ret)) (
       .skip))))) (
    .reg none [⟨(some 16), none, .mv (.t 5)⟩,
      ⟨(some 17), none, .bin .add (.t 16) (.c (.int .i64 (1)))⟩,
      ⟨(some 5), none, .asn (.t 17)⟩])))))) (
 .seq (
  .reg none [⟨(some 26), none, .mv (.t 1)⟩,
    ⟨(some 4), none, .asn (.t 26)⟩]) (
 .ret)))))
def r_laws_szJobS : Nat × List RV := (27, [.t 4])

theorem c_laws_szJobS : cmpS PT PF PA (Try.prog.funcs[64]?) = some (r_laws_szJobS.1, r_laws_szJobS.2, stripK k_laws_szJobS) := by kernel_rfl

theorem h_szJobS (xs : List TJob) (left : Int) (hl : lL lJob xs) (h2 : 0 ≤ left) (h3 : left < 2 ^ 40) : CallsF Try.prog 64 [.one (.ar false 0 10 (xs.map sJob)), aI left] (aI (lft left (wL wJob xs))) := by
  refine Prun c_laws_szJobS (by simp [r_laws_szJobS]) (by simp) ?_
  unfold k_laws_szJobS r_laws_szJobS
  have hlen := hl.1
  have hlw := wL_len wJob xs
  have w1 : IntKind.i64.wrap (left - xs.length) = left - xs.length := wrapI (by omega) (by omega)
  by_cases h1 : left - (xs.length : Int) < 0
  · rw [lft_neg (by omega)]
    simp [w1, h1]
  simp [w1, h1]
  refine awp_loop (fun n σ => ∃ i : Nat, i ≤ xs.length ∧ n = xs.length - i ∧ (wL wJob (xs.take i) : Int) - i ≤ left - xs.length ∧ σ = ⟨[(0, .one (.ar false 0 10 (xs.map sJob))), (1, aI (left - xs.length - ((wL wJob (xs.take i) : Int) - i))), (5, aI i)], []⟩) (xs.length) ⟨0, by simp [wL]; omega⟩ ?_
  rintro n σ ⟨i, hi, rfl, hle, rfl⟩
  have hge := wL_len wJob (xs.take i)
  rw [List.length_take, Nat.min_eq_left hi] at hge
  by_cases h : i < xs.length
  · have hst := wL_take wJob h
    have hle2 := wL_take_le wJob xs (i + 1)
    have hlen2 := wL_len wJob (xs.drop (i + 1))
    have happ := wL_append wJob (xs.take (i + 1)) (xs.drop (i + 1))
    rw [List.take_append_drop] at happ
    rw [List.length_drop] at hlen2
    simp [h, sJob]
    refine callG_F (h_szJob xs[i] _ (hl.2 i h) (by omega) (by omega)) (by simp) ?_
    generalize hv : left - (xs.length : Int) - ((wL wJob (xs.take i) : Int) - i) = v at *
    by_cases h4 : v < (wJob xs[i] : Int)
    · simp only [lft_neg h4]
      rw [lft_neg (by omega)]
      simp
    · have e : lft v (wJob xs[i]) = v - wJob xs[i] := lft_pos (by omega)
      have n1 : ¬ v - (wJob xs[i] : Int) < 0 := by omega
      simp [e, n1]
      refine ⟨xs.length - (i + 1), by omega, i + 1, by omega, rfl, by omega, ?_⟩
      rw [wrapI (by omega) (by omega)]
      simp; omega
  · have : i = xs.length := by omega
    subst this
    rw [List.take_length] at hle
    rw [lft_pos (by omega)]
    simp
    omega
end Go.Am
-- Outcome_sz1
namespace Go.Am
open Go.Proofs
set_option maxHeartbeats 4000000
set_option maxRecDepth 100000
attribute [-simp] rErr_len sErr_len shr_rErr shr_sErr shrs_rErr shrs_sErr noSh_rErr mErr_wr mErr_n rSlot_len sSlot_len shr_rSlot shr_sSlot shrs_rSlot shrs_sSlot noSh_rSlot mSlot_wr mSlot_n rNode_len sNode_len shr_rNode shr_sNode shrs_rNode shrs_sNode noSh_rNode mNode_wr mNode_n rTree_len sTree_len shr_rTree shr_sTree shrs_rTree shrs_sTree noSh_rTree mTree_wr mTree_n rRun_len sRun_len shr_rRun shr_sRun shrs_rRun shrs_sRun noSh_rRun mRun_wr mRun_n rJob_len sJob_len shr_rJob shr_sJob shrs_rJob shrs_sJob noSh_rJob mJob_wr mJob_n rTenant_len sTenant_len shr_rTenant shr_sTenant shrs_rTenant shrs_sTenant noSh_rTenant mTenant_wr mTenant_n map_rs_Slot map_rs_Err map_rs_Outcome uTenant_wr uTenant_n rConf_len sConf_len shr_rConf shr_sConf shrs_rConf shrs_sConf noSh_rConf mConf_wr mConf_n rLine_len sLine_len shr_rLine shr_sLine shrs_rLine shrs_sLine noSh_rLine mLine_wr mLine_n rStore_len sStore_len shr_rStore shr_sStore shrs_rStore shrs_sStore noSh_rStore mStore_wr mStore_n uStore_wr uStore_n noSh_sOutcome noSh_sSlot noSh_sErr noSh_tenant
-- 120 loop.example/g00485/laws.szOutcome
def k_laws_szOutcome : K :=
 .seq (
  .reg none [⟨(some 2), none, .box 160 3 (.t 0)⟩,
    ⟨(some 4), none, .asn (.c (.int .i64 (0)))⟩]) (
 .seq (
  .reg none [⟨(some 5), none, .mv (.t 1)⟩,
    ⟨(some 6), none, .fad 2 (.t 2)⟩,
    ⟨(some 7), none, .ld 1 false (.t 6)⟩,
    ⟨(some 8), none, .lns (.t 7)⟩,
    ⟨(some 9), none, .bin .sub (.t 5) (.t 8)⟩,
    ⟨(some 1), none, .asn (.t 9)⟩]) (
 .seq (
  .seq (
   .reg none [⟨(some 10), none, .mv (.t 1)⟩,
     ⟨(some 11), none, .bin .lss (.t 10) (.c (.int .i64 (0)))⟩]) (
  .cond (.t 11) (
   .seq (
    .reg none [⟨(some 4), none, .asn (.c (.int .i64 (-1)))⟩]) (
   .ret)) (
   .skip))) (
 .seq (
  .reg none [⟨(some 12), none, .mv (.t 1)⟩,
    ⟨(some 4), none, .asn (.t 12)⟩]) (
 .ret))))
def r_laws_szOutcome : Nat × List RV := (13, [.t 4])

theorem c_laws_szOutcome : cmpS PT PF PA (Try.prog.funcs[120]?) = some (r_laws_szOutcome.1, r_laws_szOutcome.2, stripK k_laws_szOutcome) := by kernel_rfl

theorem h_szOutcome (a : TOutcome) (left : Int) (h : lOutcome a) (h2 : 0 ≤ left) (h3 : left < 2 ^ 40) : CallsF Try.prog 120 [.agg (sOutcome a), aI left] (aI (lft left (wOutcome a))) := by
  refine Prun c_laws_szOutcome (by simp [r_laws_szOutcome]) (by simp) ?_
  unfold k_laws_szOutcome r_laws_szOutcome
  simp only [lOutcome] at h
  simp only [wOutcome]
  have hl0 := h
  simp [sOutcome]
  have ww0 : IntKind.i64.wrap (left - (a.text.size : Int)) = left - a.text.size := wrapI (by omega) (by omega)
  by_cases n0 : left - (a.text.size : Int) < 0
  case pos => simp [ww0, n0]; try rw [lft_neg (by omega)]
  simp [ww0, n0]
  try rw [lft_pos (by omega)]
  try omega
end Go.Am
-- Outcome_sz
namespace Go.Am
open Go.Proofs
set_option maxHeartbeats 4000000
set_option maxRecDepth 100000
attribute [-simp] rErr_len sErr_len shr_rErr shr_sErr shrs_rErr shrs_sErr noSh_rErr mErr_wr mErr_n rSlot_len sSlot_len shr_rSlot shr_sSlot shrs_rSlot shrs_sSlot noSh_rSlot mSlot_wr mSlot_n rNode_len sNode_len shr_rNode shr_sNode shrs_rNode shrs_sNode noSh_rNode mNode_wr mNode_n rTree_len sTree_len shr_rTree shr_sTree shrs_rTree shrs_sTree noSh_rTree mTree_wr mTree_n rRun_len sRun_len shr_rRun shr_sRun shrs_rRun shrs_sRun noSh_rRun mRun_wr mRun_n rJob_len sJob_len shr_rJob shr_sJob shrs_rJob shrs_sJob noSh_rJob mJob_wr mJob_n rTenant_len sTenant_len shr_rTenant shr_sTenant shrs_rTenant shrs_sTenant noSh_rTenant mTenant_wr mTenant_n map_rs_Slot map_rs_Err map_rs_Outcome uTenant_wr uTenant_n rConf_len sConf_len shr_rConf shr_sConf shrs_rConf shrs_sConf noSh_rConf mConf_wr mConf_n rLine_len sLine_len shr_rLine shr_sLine shrs_rLine shrs_sLine noSh_rLine mLine_wr mLine_n rStore_len sStore_len shr_rStore shr_sStore shrs_rStore shrs_sStore noSh_rStore mStore_wr mStore_n uStore_wr uStore_n noSh_sOutcome noSh_sSlot noSh_sErr noSh_tenant
-- 65 loop.example/g00485/laws.szOutcomeS
def k_laws_szOutcomeS : K :=
 .seq (
  .reg none [⟨(some 4), none, .asn (.c (.int .i64 (0)))⟩]) (
 .seq (
  .reg none [⟨(some 6), none, .mv (.t 1)⟩,
    ⟨(some 7), none, .mv (.t 0)⟩,
    ⟨(some 8), none, .len (.t 7)⟩,
    ⟨(some 9), none, .bin .sub (.t 6) (.t 8)⟩,
    ⟨(some 1), none, .asn (.t 9)⟩]) (
 .seq (
  .seq (
   .reg none [⟨(some 10), none, .mv (.t 1)⟩,
     ⟨(some 11), none, .bin .lss (.t 10) (.c (.int .i64 (0)))⟩]) (
  .cond (.t 11) (
   .seq (
    .reg none [⟨(some 4), none, .asn (.c (.int .i64 (-1)))⟩]) (
   .ret)) (
   .skip))) (
 .seq (
  .seq (
   .reg none [⟨(some 5), none, .asn (.c (.int .i64 (0)))⟩]) (
  .block 0 (
   .loop (some ([0, 1, 5], [0, 1, 5, 1000])) (
    .seq (
     .seq (
      .reg none [⟨(some 12), none, .mv (.t 5)⟩,
        ⟨(some 13), none, .mv (.t 0)⟩,
        ⟨(some 14), none, .len (.t 13)⟩,
        ⟨(some 15), none, .bin .lss (.t 12) (.t 14)⟩]) (
     .cond (.t 15) (
      .skip) (
      .exit 0))) (
    .seq (
     .block 1 (
      .seq (
       .reg none [⟨(some 18), none, .mv (.t 0)⟩,
         ⟨(some 19), none, .mv (.t 5)⟩,
         ⟨(some 20), none, .iad 3 (.t 18) (.t 19)⟩,
         ⟨(some 21), none, .ld 3 true (.t 20)⟩,
         ⟨(some 22), none, .mv (.t 1)⟩,
         ⟨(some 23), none, .call 120 [(.t 21), (.t 22)]⟩,
         ⟨(some 1), none, .asn (.t 23)⟩]) (
      .seq (
       .reg none [⟨(some 24), none, .mv (.t 1)⟩,
         ⟨(some 25), none, .bin .lss (.t 24) (.c (.int .i64 (0)))⟩]) (
      .cond (.t 25) (
       .seq (
        .reg none [⟨(some 4), none, .asn (.c (.int .i64 (-1)))⟩]) (
       .ret)) (
       .skip))))) (
    .reg none [⟨(some 16), none, .mv (.t 5)⟩,
      ⟨(some 17), none, .bin .add (.t 16) (.c (.int .i64 (1)))⟩,
      ⟨(some 5), none, .asn (.t 17)⟩])))))) (
 .seq (
  .reg none [⟨(some 26), none, .mv (.t 1)⟩,
    ⟨(some 4), none, .asn (.t 26)⟩]) (
 .ret)))))
def r_laws_szOutcomeS : Nat × List RV := (27, [.t 4])

theorem c_laws_szOutcomeS : cmpS PT PF PA (Try.prog.funcs[65]?) = some (r_laws_szOutcomeS.1, r_laws_szOutcomeS.2, stripK k_laws_szOutcomeS) := by kernel_rfl

theorem h_szOutcomeS (xs : List TOutcome) (left : Int) (hl : lL lOutcome xs) (h2 : 0 ≤ left) (h3 : left < 2 ^ 40) : CallsF Try.prog 65 [.one (.ar false 0 3 (xs.map sOutcome)), aI left] (aI (lft left (wL wOutcome xs))) := by
  refine Prun c_laws_szOutcomeS (by simp [r_laws_szOutcomeS]) (by simp) ?_
  unfold k_laws_szOutcomeS r_laws_szOutcomeS
  have hlen := hl.1
  have hlw := wL_len wOutcome xs
  have w1 : IntKind.i64.wrap (left - xs.length) = left - xs.length := wrapI (by omega) (by omega)
  by_cases h1 : left - (xs.length : Int) < 0
  · rw [lft_neg (by omega)]
    simp [w1, h1]
  simp [w1, h1]
  refine awp_loop (fun n σ => ∃ i : Nat, i ≤ xs.length ∧ n = xs.length - i ∧ (wL wOutcome (xs.take i) : Int) - i ≤ left - xs.length ∧ σ = ⟨[(0, .one (.ar false 0 3 (xs.map sOutcome))), (1, aI (left - xs.length - ((wL wOutcome (xs.take i) : Int) - i))), (5, aI i)], []⟩) (xs.length) ⟨0, by simp [wL]; omega⟩ ?_
  rintro n σ ⟨i, hi, rfl, hle, rfl⟩
  have hge := wL_len wOutcome (xs.take i)
  rw [List.length_take, Nat.min_eq_left hi] at hge
  by_cases h : i < xs.length
  · have hst := wL_take wOutcome h
    have hle2 := wL_take_le wOutcome xs (i + 1)
    have hlen2 := wL_len wOutcome (xs.drop (i + 1))
    have happ := wL_append wOutcome (xs.take (i + 1)) (xs.drop (i + 1))
    rw [List.take_append_drop] at happ
    rw [List.length_drop] at hlen2
    simp [h, sOutcome]
    refine callG_F (h_szOutcome xs[i] _ (hl.2 i h) (by omega) (by omega)) (by simp) ?_
    generalize hv : left - (xs.length : Int) - ((wL wOutcome (xs.take i) : Int) - i) = v at *
    by_cases h4 : v < (wOutcome xs[i] : Int)
    · simp only [lft_neg h4]
      rw [lft_neg (by omega)]
      simp
    · have e : lft v (wOutcome xs[i]) = v - wOutcome xs[i] := lft_pos (by omega)
      have n1 : ¬ v - (wOutcome xs[i] : Int) < 0 := by omega
      simp [e, n1]
      refine ⟨xs.length - (i + 1), by omega, i + 1, by omega, rfl, by omega, ?_⟩
      rw [wrapI (by omega) (by omega)]
      simp; omega
  · have : i = xs.length := by omega
    subst this
    rw [List.take_length] at hle
    rw [lft_pos (by omega)]
    simp
    omega
end Go.Am
-- Tenant_sz1
namespace Go.Am
open Go.Proofs
set_option maxHeartbeats 4000000
set_option maxRecDepth 100000
attribute [-simp] map_rs_Slot map_rs_Err map_rs_Outcome uTenant_wr uTenant_n rConf_len sConf_len shr_rConf shr_sConf shrs_rConf shrs_sConf noSh_rConf mConf_wr mConf_n rLine_len sLine_len shr_rLine shr_sLine shrs_rLine shrs_sLine noSh_rLine mLine_wr mLine_n rStore_len sStore_len shr_rStore shr_sStore shrs_rStore shrs_sStore noSh_rStore mStore_wr mStore_n uStore_wr uStore_n noSh_sOutcome noSh_sSlot noSh_sErr noSh_tenant
-- 27 loop.example/g00485/laws.szTenant
def k_laws_szTenant : K :=
 .seq (
  .reg none [⟨(some 2), none, .box 52 10 (.t 0)⟩,
    ⟨(some 4), none, .asn (.c (.int .i64 (0)))⟩]) (
 .seq (
  .reg none [⟨(some 5), none, .fad 8 (.t 2)⟩,
    ⟨(some 6), none, .ld 1 false (.t 5)⟩,
    ⟨(some 7), none, .mv (.t 1)⟩,
    ⟨(some 8), none, .call 64 [(.t 6), (.t 7)]⟩,
    ⟨(some 1), none, .asn (.t 8)⟩]) (
 .seq (
  .seq (
   .reg none [⟨(some 9), none, .mv (.t 1)⟩,
     ⟨(some 10), none, .bin .lss (.t 9) (.c (.int .i64 (0)))⟩]) (
  .cond (.t 10) (
   .seq (
    .reg none [⟨(some 4), none, .asn (.c (.int .i64 (-1)))⟩]) (
   .ret)) (
   .skip))) (
 .seq (
  .reg none [⟨(some 11), none, .fad 9 (.t 2)⟩,
    ⟨(some 12), none, .ld 1 false (.t 11)⟩,
    ⟨(some 13), none, .mv (.t 1)⟩,
    ⟨(some 14), none, .call 65 [(.t 12), (.t 13)]⟩,
    ⟨(some 1), none, .asn (.t 14)⟩]) (
 .seq (
  .seq (
   .reg none [⟨(some 15), none, .mv (.t 1)⟩,
     ⟨(some 16), none, .bin .lss (.t 15) (.c (.int .i64 (0)))⟩]) (
  .cond (.t 16) (
   .seq (
    .reg none [⟨(some 4), none, .asn (.c (.int .i64 (-1)))⟩]) (
   .ret)) (
   .skip))) (
 .seq (
  .reg none [⟨(some 17), none, .mv (.t 1)⟩,
    ⟨(some 4), none, .asn (.t 17)⟩]) (
 .ret))))))
def r_laws_szTenant : Nat × List RV := (18, [.t 4])

theorem c_laws_szTenant : cmpS PT PF PA (Try.prog.funcs[27]?) = some (r_laws_szTenant.1, r_laws_szTenant.2, stripK k_laws_szTenant) := by kernel_rfl

theorem h_szTenant (a : TTenant) (left : Int) (h : lTenant a) (h2 : 0 ≤ left) (h3 : left < 2 ^ 40) : CallsF Try.prog 27 [.agg (sTenant a), aI left] (aI (lft left (wTenant a))) := by
  refine Prun c_laws_szTenant (by simp [r_laws_szTenant]) (by simp) ?_
  unfold k_laws_szTenant r_laws_szTenant
  simp only [lTenant] at h
  simp only [wTenant]
  obtain ⟨hl0, hl1⟩ := h
  simp [sTenant]
  refine callG_F (h_szJobS a.queue (left) hl0 (by omega) (by omega)) (by simp) ?_
  by_cases g0 : left < (wL wJob a.queue : Int)
  case pos => simp only [lft_neg g0]; simp; try rw [lft_neg (by omega)]
  simp only [lft_pos (show (wL wJob a.queue : Int) ≤ left by omega)]
  have n0 : ¬ left - (wL wJob a.queue : Int) < 0 := by omega
  simp [n0]
  refine callG_F (h_szOutcomeS a.out (left - (wL wJob a.queue : Int)) hl1 (by omega) (by omega)) (by simp) ?_
  by_cases g1 : left - (wL wJob a.queue : Int) < (wL wOutcome a.out : Int)
  case pos => simp only [lft_neg g1]; simp; try rw [lft_neg (by omega)]
  simp only [lft_pos (show (wL wOutcome a.out : Int) ≤ left - (wL wJob a.queue : Int) by omega)]
  have n1 : ¬ left - (wL wJob a.queue : Int) - (wL wOutcome a.out : Int) < 0 := by omega
  simp [n1]
  try rw [lft_pos (by omega)]
  try omega
end Go.Am
-- Err_eq1
namespace Go.Am
open Go.Proofs
set_option maxHeartbeats 4000000
set_option maxRecDepth 100000
attribute [-simp] rSlot_len sSlot_len shr_rSlot shr_sSlot shrs_rSlot shrs_sSlot noSh_rSlot mSlot_wr mSlot_n rNode_len sNode_len shr_rNode shr_sNode shrs_rNode shrs_sNode noSh_rNode mNode_wr mNode_n rTree_len sTree_len shr_rTree shr_sTree shrs_rTree shrs_sTree noSh_rTree mTree_wr mTree_n rRun_len sRun_len shr_rRun shr_sRun shrs_rRun shrs_sRun noSh_rRun mRun_wr mRun_n rJob_len sJob_len shr_rJob shr_sJob shrs_rJob shrs_sJob noSh_rJob mJob_wr mJob_n rOutcome_len sOutcome_len shr_rOutcome shr_sOutcome shrs_rOutcome shrs_sOutcome noSh_rOutcome mOutcome_wr mOutcome_n rTenant_len sTenant_len shr_rTenant shr_sTenant shrs_rTenant shrs_sTenant noSh_rTenant mTenant_wr mTenant_n map_rs_Slot map_rs_Err map_rs_Outcome uTenant_wr uTenant_n rConf_len sConf_len shr_rConf shr_sConf shrs_rConf shrs_sConf noSh_rConf mConf_wr mConf_n rLine_len sLine_len shr_rLine shr_sLine shrs_rLine shrs_sLine noSh_rLine mLine_wr mLine_n rStore_len sStore_len shr_rStore shr_sStore shrs_rStore shrs_sStore noSh_rStore mStore_wr mStore_n uStore_wr uStore_n noSh_sOutcome noSh_sSlot noSh_sErr noSh_tenant
-- 195 loop.example/g00485/laws.eqErr
def k_laws_eqErr : K :=
 .seq (
  .reg none [⟨(some 2), none, .box 187 3 (.t 0)⟩,
    ⟨(some 3), none, .box 187 3 (.t 1)⟩,
    ⟨(some 4), none, .asn (.c (.bool false))⟩]) (
 .seq (
  .seq (
   .reg none [⟨(some 5), none, .fad 0 (.t 2)⟩,
     ⟨(some 6), none, .ld 1 false (.t 5)⟩,
     ⟨(some 7), none, .fad 0 (.t 3)⟩,
     ⟨(some 8), none, .ld 1 false (.t 7)⟩,
     ⟨(some 9), none, .bin .neq (.t 6) (.t 8)⟩]) (
  .cond (.t 9) (
   .seq (
    .reg none [⟨(some 4), none, .asn (.c (.bool false))⟩]) (
   .ret)) (
   .skip))) (
 .seq (
  .seq (
   .reg none [⟨(some 10), none, .fad 1 (.t 2)⟩,
     ⟨(some 11), none, .ld 1 false (.t 10)⟩,
     ⟨(some 12), none, .fad 1 (.t 3)⟩,
     ⟨(some 13), none, .ld 1 false (.t 12)⟩,
     ⟨(some 14), none, .bin .neq (.t 11) (.t 13)⟩]) (
  .cond (.t 14) (
   .seq (
    .reg none [⟨(some 4), none, .asn (.c (.bool false))⟩]) (
   .ret)) (
   .skip))) (
 .seq (
  .seq (
   .reg none [⟨(some 15), none, .fad 2 (.t 2)⟩,
     ⟨(some 16), none, .ld 1 false (.t 15)⟩,
     ⟨(some 17), none, .fad 2 (.t 3)⟩,
     ⟨(some 18), none, .ld 1 false (.t 17)⟩,
     ⟨(some 19), none, .bin .neq (.t 16) (.t 18)⟩]) (
  .cond (.t 19) (
   .seq (
    .reg none [⟨(some 4), none, .asn (.c (.bool false))⟩]) (
   .ret)) (
   .skip))) (
 .seq (
  .reg none [⟨(some 4), none, .asn (.c (.bool true))⟩]) (
 .ret)))))
def r_laws_eqErr : Nat × List RV := (20, [.t 4])

theorem c_laws_eqErr : cmpS PT PF PA (Try.prog.funcs[195]?) = some (r_laws_eqErr.1, r_laws_eqErr.2, stripK k_laws_eqErr) := by kernel_rfl

theorem h_eqErr (a : TErr) (ha : wErr a < 2 ^ 40) : CallsF Try.prog 195 [.agg (sErr a), .agg (sErr a)] (aB true) := by
  refine Prun c_laws_eqErr (by simp [r_laws_eqErr]) (by simp) ?_
  unfold k_laws_eqErr r_laws_eqErr
  simp only [wErr] at ha
  simp [sErr]
end Go.Am
-- Err_eq
namespace Go.Am
open Go.Proofs
set_option maxHeartbeats 4000000
set_option maxRecDepth 100000
attribute [-simp] rSlot_len sSlot_len shr_rSlot shr_sSlot shrs_rSlot shrs_sSlot noSh_rSlot mSlot_wr mSlot_n rNode_len sNode_len shr_rNode shr_sNode shrs_rNode shrs_sNode noSh_rNode mNode_wr mNode_n rTree_len sTree_len shr_rTree shr_sTree shrs_rTree shrs_sTree noSh_rTree mTree_wr mTree_n rRun_len sRun_len shr_rRun shr_sRun shrs_rRun shrs_sRun noSh_rRun mRun_wr mRun_n rJob_len sJob_len shr_rJob shr_sJob shrs_rJob shrs_sJob noSh_rJob mJob_wr mJob_n rOutcome_len sOutcome_len shr_rOutcome shr_sOutcome shrs_rOutcome shrs_sOutcome noSh_rOutcome mOutcome_wr mOutcome_n rTenant_len sTenant_len shr_rTenant shr_sTenant shrs_rTenant shrs_sTenant noSh_rTenant mTenant_wr mTenant_n map_rs_Slot map_rs_Err map_rs_Outcome uTenant_wr uTenant_n rConf_len sConf_len shr_rConf shr_sConf shrs_rConf shrs_sConf noSh_rConf mConf_wr mConf_n rLine_len sLine_len shr_rLine shr_sLine shrs_rLine shrs_sLine noSh_rLine mLine_wr mLine_n rStore_len sStore_len shr_rStore shr_sStore shrs_rStore shrs_sStore noSh_rStore mStore_wr mStore_n uStore_wr uStore_n noSh_sOutcome noSh_sSlot noSh_sErr noSh_tenant
-- 172 loop.example/g00485/laws.eqErrS
def k_laws_eqErrS : K :=
 .seq (
  .reg none [⟨(some 4), none, .asn (.c (.bool false))⟩]) (
 .seq (
  .seq (
   .reg none [⟨(some 6), none, .mv (.t 0)⟩,
     ⟨(some 7), none, .len (.t 6)⟩,
     ⟨(some 8), none, .mv (.t 1)⟩,
     ⟨(some 9), none, .len (.t 8)⟩,
     ⟨(some 10), none, .bin .neq (.t 7) (.t 9)⟩]) (
  .cond (.t 10) (
   .seq (
    .reg none [⟨(some 4), none, .asn (.c (.bool false))⟩]) (
   .ret)) (
   .skip))) (
 .seq (
  .seq (
   .reg none [⟨(some 5), none, .asn (.c (.int .i64 (0)))⟩]) (
  .block 0 (
   .loop (some ([0, 1, 5], [0, 1, 5, 1000])) (
    .seq (
     .seq (
      .reg none [⟨(some 11), none, .mv (.t 5)⟩,
        ⟨(some 12), none, .mv (.t 0)⟩,
        ⟨(some 13), none, .len (.t 12)⟩,
        ⟨(some 14), none, .bin .lss (.t 11) (.t 13)⟩]) (
     .cond (.t 14) (
      .skip) (
      .exit 0))) (
    .seq (
     .block 1 (
      .seq (
       .drw none 10 [⟨(some 17), none, .mv (.t 0)⟩,
         ⟨(some 18), none, .mv (.t 5)⟩,
         ⟨(some 19), none, .iad 3 (.t 17) (.t 18)⟩,
         ⟨(some 20), none, .ld 3 true (.t 19)⟩,
         ⟨(some 21), none, .mv (.t 1)⟩,
         ⟨(some 22), none, .mv (.t 5)⟩,
         ⟨(some 23), none, .iad 3 (.t 21) (.t 22)⟩,
         ⟨(some 24), none, .ld 3 true (.t 23)⟩,
         ⟨(some 25), none, .call 195 [(.t 20), (.t 24)]⟩,
         ⟨(some 26), none, .not (.t 25)⟩]) (
      .cond (.t 26) (
       .seq (
        .reg none [⟨(some 4), none, .asn (.c (.bool false))⟩]) (
       .ret)) (
       .skip)))) (
    .reg none [⟨(some 15), none, .mv (.t 5)⟩,
      ⟨(some 16), none, .bin .add (.t 15) (.c (.int .i64 (1)))⟩,
      ⟨(some 5), none, .asn (.t 16)⟩])))))) (
 .seq (
  .reg none [⟨(some 4), none, .asn (.c (.bool true))⟩]) (
 .ret))))
def r_laws_eqErrS : Nat × List RV := (27, [.t 4])

theorem c_laws_eqErrS : cmpS PT PF PA (Try.prog.funcs[172]?) = some (r_laws_eqErrS.1, r_laws_eqErrS.2, stripK k_laws_eqErrS) := by kernel_rfl

theorem h_eqErrS (xs : List TErr) (hx : wL wErr xs < 2 ^ 40) : CallsF Try.prog 172 [.one (.ar false 0 3 (xs.map sErr)), .one (.ar false 0 3 (xs.map sErr))] (aB true) := by
  refine Prun c_laws_eqErrS (by simp [r_laws_eqErrS]) (by simp) ?_
  unfold k_laws_eqErrS r_laws_eqErrS
  have hlen := wL_len wErr xs
  simp
  refine awp_loop (fun n σ => ∃ i : Nat, i ≤ xs.length ∧ n = xs.length - i ∧ σ = ⟨[(0, .one (.ar false 0 3 (xs.map sErr))), (1, .one (.ar false 0 3 (xs.map sErr))), (5, aI i)], []⟩) (xs.length) ⟨0, by simp⟩ ?_
  rintro n σ ⟨i, hi, rfl, rfl⟩
  by_cases h : i < xs.length
  · have hw := wL_get wErr xs i h
    simp [h, sErr]
    refine ⟨_, by simp, h_eqErr xs[i] (by omega), ?_⟩
    simp
    refine ⟨xs.length - (i + 1), by omega, i + 1, by omega, rfl, ?_⟩
    rw [wrapI (by omega) (by omega)]
    simp
  · simp [h]
end Go.Am
-- Slot_eq1
namespace Go.Am
open Go.Proofs
set_option maxHeartbeats 4000000
set_option maxRecDepth 100000
attribute [-simp] rErr_len sErr_len shr_rErr shr_sErr shrs_rErr shrs_sErr noSh_rErr mErr_wr mErr_n rNode_len sNode_len shr_rNode shr_sNode shrs_rNode shrs_sNode noSh_rNode mNode_wr mNode_n rTree_len sTree_len shr_rTree shr_sTree shrs_rTree shrs_sTree noSh_rTree mTree_wr mTree_n rRun_len sRun_len shr_rRun shr_sRun shrs_rRun shrs_sRun noSh_rRun mRun_wr mRun_n rJob_len sJob_len shr_rJob shr_sJob shrs_rJob shrs_sJob noSh_rJob mJob_wr mJob_n rOutcome_len sOutcome_len shr_rOutcome shr_sOutcome shrs_rOutcome shrs_sOutcome noSh_rOutcome mOutcome_wr mOutcome_n rTenant_len sTenant_len shr_rTenant shr_sTenant shrs_rTenant shrs_sTenant noSh_rTenant mTenant_wr mTenant_n map_rs_Slot map_rs_Err map_rs_Outcome uTenant_wr uTenant_n rConf_len sConf_len shr_rConf shr_sConf shrs_rConf shrs_sConf noSh_rConf mConf_wr mConf_n rLine_len sLine_len shr_rLine shr_sLine shrs_rLine shrs_sLine noSh_rLine mLine_wr mLine_n rStore_len sStore_len shr_rStore shr_sStore shrs_rStore shrs_sStore noSh_rStore mStore_wr mStore_n uStore_wr uStore_n noSh_sOutcome noSh_sSlot noSh_sErr noSh_tenant
-- 193 loop.example/g00485/laws.eqSlot
def k_laws_eqSlot : K :=
 .seq (
  .reg none [⟨(some 2), none, .box 183 2 (.t 0)⟩,
    ⟨(some 3), none, .box 183 2 (.t 1)⟩,
    ⟨(some 4), none, .asn (.c (.bool false))⟩]) (
 .seq (
  .seq (
   .reg none [⟨(some 5), none, .fad 0 (.t 2)⟩,
     ⟨(some 6), none, .ld 1 false (.t 5)⟩,
     ⟨(some 7), none, .fad 0 (.t 3)⟩,
     ⟨(some 8), none, .ld 1 false (.t 7)⟩,
     ⟨(some 9), none, .bin .neq (.t 6) (.t 8)⟩]) (
  .cond (.t 9) (
   .seq (
    .reg none [⟨(some 4), none, .asn (.c (.bool false))⟩]) (
   .ret)) (
   .skip))) (
 .seq (
  .seq (
   .reg none [⟨(some 10), none, .fad 1 (.t 2)⟩,
     ⟨(some 11), none, .ld 1 false (.t 10)⟩,
     ⟨(some 12), none, .fad 1 (.t 3)⟩,
     ⟨(some 13), none, .ld 1 false (.t 12)⟩,
     ⟨(some 14), none, .bin .neq (.t 11) (.t 13)⟩]) (
  .cond (.t 14) (
   .seq (
    .reg none [⟨(some 4), none, .asn (.c (.bool false))⟩]) (
   .ret)) (
   .skip))) (
 .seq (
  .reg none [⟨(some 4), none, .asn (.c (.bool true))⟩]) (
 .ret))))
def r_laws_eqSlot : Nat × List RV := (15, [.t 4])

theorem c_laws_eqSlot : cmpS PT PF PA (Try.prog.funcs[193]?) = some (r_laws_eqSlot.1, r_laws_eqSlot.2, stripK k_laws_eqSlot) := by kernel_rfl

theorem h_eqSlot (a : TSlot) (ha : wSlot a < 2 ^ 40) : CallsF Try.prog 193 [.agg (sSlot a), .agg (sSlot a)] (aB true) := by
  refine Prun c_laws_eqSlot (by simp [r_laws_eqSlot]) (by simp) ?_
  unfold k_laws_eqSlot r_laws_eqSlot
  simp only [wSlot] at ha
  simp [sSlot]
end Go.Am
-- Slot_eq
namespace Go.Am
open Go.Proofs
set_option maxHeartbeats 4000000
set_option maxRecDepth 100000
attribute [-simp] rErr_len sErr_len shr_rErr shr_sErr shrs_rErr shrs_sErr noSh_rErr mErr_wr mErr_n rNode_len sNode_len shr_rNode shr_sNode shrs_rNode shrs_sNode noSh_rNode mNode_wr mNode_n rTree_len sTree_len shr_rTree shr_sTree shrs_rTree shrs_sTree noSh_rTree mTree_wr mTree_n rRun_len sRun_len shr_rRun shr_sRun shrs_rRun shrs_sRun noSh_rRun mRun_wr mRun_n rJob_len sJob_len shr_rJob shr_sJob shrs_rJob shrs_sJob noSh_rJob mJob_wr mJob_n rOutcome_len sOutcome_len shr_rOutcome shr_sOutcome shrs_rOutcome shrs_sOutcome noSh_rOutcome mOutcome_wr mOutcome_n rTenant_len sTenant_len shr_rTenant shr_sTenant shrs_rTenant shrs_sTenant noSh_rTenant mTenant_wr mTenant_n map_rs_Slot map_rs_Err map_rs_Outcome uTenant_wr uTenant_n rConf_len sConf_len shr_rConf shr_sConf shrs_rConf shrs_sConf noSh_rConf mConf_wr mConf_n rLine_len sLine_len shr_rLine shr_sLine shrs_rLine shrs_sLine noSh_rLine mLine_wr mLine_n rStore_len sStore_len shr_rStore shr_sStore shrs_rStore shrs_sStore noSh_rStore mStore_wr mStore_n uStore_wr uStore_n noSh_sOutcome noSh_sSlot noSh_sErr noSh_tenant
-- 170 loop.example/g00485/laws.eqSlotS
def k_laws_eqSlotS : K :=
 .seq (
  .reg none [⟨(some 4), none, .asn (.c (.bool false))⟩]) (
 .seq (
  .seq (
   .reg none [⟨(some 6), none, .mv (.t 0)⟩,
     ⟨(some 7), none, .len (.t 6)⟩,
     ⟨(some 8), none, .mv (.t 1)⟩,
     ⟨(some 9), none, .len (.t 8)⟩,
     ⟨(some 10), none, .bin .neq (.t 7) (.t 9)⟩]) (
  .cond (.t 10) (
   .seq (
    .reg none [⟨(some 4), none, .asn (.c (.bool false))⟩]) (
   .ret)) (
   .skip))) (
 .seq (
  .seq (
   .reg none [⟨(some 5), none, .asn (.c (.int .i64 (0)))⟩]) (
  .block 0 (
   .loop (some ([0, 1, 5], [0, 1, 5, 1000])) (
    .seq (
     .seq (
      .reg none [⟨(some 11), none, .mv (.t 5)⟩,
        ⟨(some 12), none, .mv (.t 0)⟩,
        ⟨(some 13), none, .len (.t 12)⟩,
        ⟨(some 14), none, .bin .lss (.t 11) (.t 13)⟩]) (
     .cond (.t 14) (
      .skip) (
      .exit 0))) (
    .seq (
     .block 1 (
      .seq (
       .drw none 10 [⟨(some 17), none, .mv (.t 0)⟩,
         ⟨(some 18), none, .mv (.t 5)⟩,
         ⟨(some 19), none, .iad 2 (.t 17) (.t 18)⟩,
         ⟨(some 20), none, .ld 2 true (.t 19)⟩,
         ⟨(some 21), none, .mv (.t 1)⟩,
         ⟨(some 22), none, .mv (.t 5)⟩,
         ⟨(some 23), none, .iad 2 (.t 21) (.t 22)⟩,
         ⟨(some 24), none, .ld 2 true (.t 23)⟩,
         ⟨(some 25), none, .call 193 [(.t 20), (.t 24)]⟩,
         ⟨(some 26), none, .not (.t 25)⟩]) (
      .cond (.t 26) (
       .seq (
        .reg none [⟨(some 4), none, .asn (.c (.bool false))⟩]) (
       .ret)) (
       .skip)))) (
    .reg none [⟨(some 15), none, .mv (.t 5)⟩,
      ⟨(some 16), none, .bin .add (.t 15) (.c (.int .i64 (1)))⟩,
      ⟨(some 5), none, .asn (.t 16)⟩])))))) (
 .seq (
  .reg none [⟨(some 4), none, .asn (.c (.bool true))⟩]) (
 .ret))))
def r_laws_eqSlotS : Nat × List RV := (27, [.t 4])

theorem c_laws_eqSlotS : cmpS PT PF PA (Try.prog.funcs[170]?) = some (r_laws_eqSlotS.1, r_laws_eqSlotS.2, stripK k_laws_eqSlotS) := by kernel_rfl

theorem h_eqSlotS (xs : List TSlot) (hx : wL wSlot xs < 2 ^ 40) : CallsF Try.prog 170 [.one (.ar false 0 2 (xs.map sSlot)), .one (.ar false 0 2 (xs.map sSlot))] (aB true) := by
  refine Prun c_laws_eqSlotS (by simp [r_laws_eqSlotS]) (by simp) ?_
  unfold k_laws_eqSlotS r_laws_eqSlotS
  have hlen := wL_len wSlot xs
  simp
  refine awp_loop (fun n σ => ∃ i : Nat, i ≤ xs.length ∧ n = xs.length - i ∧ σ = ⟨[(0, .one (.ar false 0 2 (xs.map sSlot))), (1, .one (.ar false 0 2 (xs.map sSlot))), (5, aI i)], []⟩) (xs.length) ⟨0, by simp⟩ ?_
  rintro n σ ⟨i, hi, rfl, rfl⟩
  by_cases h : i < xs.length
  · have hw := wL_get wSlot xs i h
    simp [h, sSlot]
    refine ⟨_, by simp, h_eqSlot xs[i] (by omega), ?_⟩
    simp
    refine ⟨xs.length - (i + 1), by omega, i + 1, by omega, rfl, ?_⟩
    rw [wrapI (by omega) (by omega)]
    simp
  · simp [h]
end Go.Am
-- Node_eq1
namespace Go.Am
open Go.Proofs
set_option maxHeartbeats 4000000
set_option maxRecDepth 100000
attribute [-simp] rErr_len sErr_len shr_rErr shr_sErr shrs_rErr shrs_sErr noSh_rErr mErr_wr mErr_n rSlot_len sSlot_len shr_rSlot shr_sSlot shrs_rSlot shrs_sSlot noSh_rSlot mSlot_wr mSlot_n rTree_len sTree_len shr_rTree shr_sTree shrs_rTree shrs_sTree noSh_rTree mTree_wr mTree_n rRun_len sRun_len shr_rRun shr_sRun shrs_rRun shrs_sRun noSh_rRun mRun_wr mRun_n rJob_len sJob_len shr_rJob shr_sJob shrs_rJob shrs_sJob noSh_rJob mJob_wr mJob_n rOutcome_len sOutcome_len shr_rOutcome shr_sOutcome shrs_rOutcome shrs_sOutcome noSh_rOutcome mOutcome_wr mOutcome_n rTenant_len sTenant_len shr_rTenant shr_sTenant shrs_rTenant shrs_sTenant noSh_rTenant mTenant_wr mTenant_n map_rs_Slot map_rs_Err map_rs_Outcome uTenant_wr uTenant_n rConf_len sConf_len shr_rConf shr_sConf shrs_rConf shrs_sConf noSh_rConf mConf_wr mConf_n rLine_len sLine_len shr_rLine shr_sLine shrs_rLine shrs_sLine noSh_rLine mLine_wr mLine_n rStore_len sStore_len shr_rStore shr_sStore shrs_rStore shrs_sStore noSh_rStore mStore_wr mStore_n uStore_wr uStore_n noSh_sOutcome noSh_sSlot noSh_sErr noSh_tenant
-- 209 loop.example/g00485/laws.eqNode
def k_laws_eqNode : K :=
 .seq (
  .reg none [⟨(some 2), none, .box 185 5 (.t 0)⟩,
    ⟨(some 3), none, .box 185 5 (.t 1)⟩,
    ⟨(some 4), none, .asn (.c (.bool false))⟩]) (
 .seq (
  .seq (
   .reg none [⟨(some 5), none, .fad 0 (.t 2)⟩,
     ⟨(some 6), none, .ld 1 false (.t 5)⟩,
     ⟨(some 7), none, .fad 0 (.t 3)⟩,
     ⟨(some 8), none, .ld 1 false (.t 7)⟩,
     ⟨(some 9), none, .bin .neq (.t 6) (.t 8)⟩]) (
  .cond (.t 9) (
   .seq (
    .reg none [⟨(some 4), none, .asn (.c (.bool false))⟩]) (
   .ret)) (
   .skip))) (
 .seq (
  .seq (
   .reg none [⟨(some 10), none, .fad 1 (.t 2)⟩,
     ⟨(some 11), none, .ld 1 false (.t 10)⟩,
     ⟨(some 12), none, .fad 1 (.t 3)⟩,
     ⟨(some 13), none, .ld 1 false (.t 12)⟩,
     ⟨(some 14), none, .bin .neq (.t 11) (.t 13)⟩]) (
  .cond (.t 14) (
   .seq (
    .reg none [⟨(some 4), none, .asn (.c (.bool false))⟩]) (
   .ret)) (
   .skip))) (
 .seq (
  .seq (
   .reg none [⟨(some 15), none, .fad 2 (.t 2)⟩,
     ⟨(some 16), none, .ld 1 false (.t 15)⟩,
     ⟨(some 17), none, .fad 2 (.t 3)⟩,
     ⟨(some 18), none, .ld 1 false (.t 17)⟩,
     ⟨(some 19), none, .bin .neq (.t 16) (.t 18)⟩]) (
  .cond (.t 19) (
   .seq (
    .reg none [⟨(some 4), none, .asn (.c (.bool false))⟩]) (
   .ret)) (
   .skip))) (
 .seq (
  .seq (
   .reg none [⟨(some 20), none, .fad 3 (.t 2)⟩,
     ⟨(some 21), none, .ld 1 false (.t 20)⟩,
     ⟨(some 22), none, .fad 3 (.t 3)⟩,
     ⟨(some 23), none, .ld 1 false (.t 22)⟩,
     ⟨(some 24), none, .bin .neq (.t 21) (.t 23)⟩]) (
  .cond (.t 24) (
   .seq (
    .reg none [⟨(some 4), none, .asn (.c (.bool false))⟩]) (
   .ret)) (
   .skip))) (
 .seq (
  .seq (
   .reg none [⟨(some 25), none, .fad 4 (.t 2)⟩,
     ⟨(some 26), none, .ld 1 false (.t 25)⟩,
     ⟨(some 27), none, .fad 4 (.t 3)⟩,
     ⟨(some 28), none, .ld 1 false (.t 27)⟩,
     ⟨(some 29), none, .call 22 [(.t 26), (.t 28)]⟩,
     ⟨(some 30), none, .not (.t 29)⟩]) (
  .cond (.t 30) (
   .seq (
    .reg none [⟨(some 4), none, .asn (.c (.bool false))⟩]) (
   .ret)) (
   .skip))) (
 .seq (
  .reg none [⟨(some 4), none, .asn (.c (.bool true))⟩]) (
 .ret)))))))
def r_laws_eqNode : Nat × List RV := (31, [.t 4])

theorem c_laws_eqNode : cmpS PT PF PA (Try.prog.funcs[209]?) = some (r_laws_eqNode.1, r_laws_eqNode.2, stripK k_laws_eqNode) := by kernel_rfl

theorem h_eqNode (a : TNode) (ha : wNode a < 2 ^ 40) : CallsF Try.prog 209 [.agg (sNode a), .agg (sNode a)] (aB true) := by
  refine Prun c_laws_eqNode (by simp [r_laws_eqNode]) (by simp) ?_
  unfold k_laws_eqNode r_laws_eqNode
  simp only [wNode] at ha
  simp [sNode]
  refine callG_F (h_eqIntS a.kids (by omega)) (by simp) ?_
  simp
end Go.Am
-- Node_eq
namespace Go.Am
open Go.Proofs
set_option maxHeartbeats 4000000
set_option maxRecDepth 100000
attribute [-simp] rErr_len sErr_len shr_rErr shr_sErr shrs_rErr shrs_sErr noSh_rErr mErr_wr mErr_n rSlot_len sSlot_len shr_rSlot shr_sSlot shrs_rSlot shrs_sSlot noSh_rSlot mSlot_wr mSlot_n rTree_len sTree_len shr_rTree shr_sTree shrs_rTree shrs_sTree noSh_rTree mTree_wr mTree_n rRun_len sRun_len shr_rRun shr_sRun shrs_rRun shrs_sRun noSh_rRun mRun_wr mRun_n rJob_len sJob_len shr_rJob shr_sJob shrs_rJob shrs_sJob noSh_rJob mJob_wr mJob_n rOutcome_len sOutcome_len shr_rOutcome shr_sOutcome shrs_rOutcome shrs_sOutcome noSh_rOutcome mOutcome_wr mOutcome_n rTenant_len sTenant_len shr_rTenant shr_sTenant shrs_rTenant shrs_sTenant noSh_rTenant mTenant_wr mTenant_n map_rs_Slot map_rs_Err map_rs_Outcome uTenant_wr uTenant_n rConf_len sConf_len shr_rConf shr_sConf shrs_rConf shrs_sConf noSh_rConf mConf_wr mConf_n rLine_len sLine_len shr_rLine shr_sLine shrs_rLine shrs_sLine noSh_rLine mLine_wr mLine_n rStore_len sStore_len shr_rStore shr_sStore shrs_rStore shrs_sStore noSh_rStore mStore_wr mStore_n uStore_wr uStore_n noSh_sOutcome noSh_sSlot noSh_sErr noSh_tenant
-- 194 loop.example/g00485/laws.eqNodeS
def k_laws_eqNodeS : K :=
 .seq (
  .reg none [⟨(some 4), none, .asn (.c (.bool false))⟩]) (
 .seq (
  .seq (
   .reg none [⟨(some 6), none, .mv (.t 0)⟩,
     ⟨(some 7), none, .len (.t 6)⟩,
     ⟨(some 8), none, .mv (.t 1)⟩,
     ⟨(some 9), none, .len (.t 8)⟩,
     ⟨(some 10), none, .bin .neq (.t 7) (.t 9)⟩]) (
  .cond (.t 10) (
   .seq (
    .reg none [⟨(some 4), none, .asn (.c (.bool false))⟩]) (
   .ret)) (
   .skip))) (
 .seq (
  .seq (
   .reg none [⟨(some 5), none, .asn (.c (.int .i64 (0)))⟩]) (
  .block 0 (
   .loop (some ([0, 1, 5], [0, 1, 5, 1000])) (
    .seq (
     .seq (
      .reg none [⟨(some 11), none, .mv (.t 5)⟩,
        ⟨(some 12), none, .mv (.t 0)⟩,
        ⟨(some 13), none, .len (.t 12)⟩,
        ⟨(some 14), none, .bin .lss (.t 11) (.t 13)⟩]) (
     .cond (.t 14) (
      .skip) (
      .exit 0))) (
    .seq (
     .block 1 (
      .seq (
       .drw none 10 [⟨(some 17), none, .mv (.t 0)⟩,
         ⟨(some 18), none, .mv (.t 5)⟩,
         ⟨(some 19), none, .iad 5 (.t 17) (.t 18)⟩,
         ⟨(some 20), none, .ld 5 true (.t 19)⟩,
         ⟨(some 21), none, .mv (.t 1)⟩,
         ⟨(some 22), none, .mv (.t 5)⟩,
         ⟨(some 23), none, .iad 5 (.t 21) (.t 22)⟩,
         ⟨(some 24), none, .ld 5 true (.t 23)⟩,
         ⟨(some 25), none, .call 209 [(.t 20), (.t 24)]⟩,
         ⟨(some 26), none, .not (.t 25)⟩]) (
      .cond (.t 26) (
       .seq (
        .reg none [⟨(some 4), none, .asn (.c (.bool false))⟩]) (
       .ret)) (
       .skip)))) (
    .reg none [⟨(some 15), none, .mv (.t 5)⟩,
      ⟨(some 16), none, .bin .add (.t 15) (.c (.int .i64 (1)))⟩,
      ⟨(some 5), none, .asn (.t 16)⟩])))))) (
 .seq (
  .reg none [⟨(some 4), none, .asn (.c (.bool true))⟩]) (
 .ret))))
def r_laws_eqNodeS : Nat × List RV := (27, [.t 4])

theorem c_laws_eqNodeS : cmpS PT PF PA (Try.prog.funcs[194]?) = some (r_laws_eqNodeS.1, r_laws_eqNodeS.2, stripK k_laws_eqNodeS) := by kernel_rfl

theorem h_eqNodeS (xs : List TNode) (hx : wL wNode xs < 2 ^ 40) : CallsF Try.prog 194 [.one (.ar false 0 5 (xs.map sNode)), .one (.ar false 0 5 (xs.map sNode))] (aB true) := by
  refine Prun c_laws_eqNodeS (by simp [r_laws_eqNodeS]) (by simp) ?_
  unfold k_laws_eqNodeS r_laws_eqNodeS
  have hlen := wL_len wNode xs
  simp
  refine awp_loop (fun n σ => ∃ i : Nat, i ≤ xs.length ∧ n = xs.length - i ∧ σ = ⟨[(0, .one (.ar false 0 5 (xs.map sNode))), (1, .one (.ar false 0 5 (xs.map sNode))), (5, aI i)], []⟩) (xs.length) ⟨0, by simp⟩ ?_
  rintro n σ ⟨i, hi, rfl, rfl⟩
  by_cases h : i < xs.length
  · have hw := wL_get wNode xs i h
    simp [h, sNode]
    refine ⟨_, by simp, h_eqNode xs[i] (by omega), ?_⟩
    simp
    refine ⟨xs.length - (i + 1), by omega, i + 1, by omega, rfl, ?_⟩
    rw [wrapI (by omega) (by omega)]
    simp
  · simp [h]
end Go.Am
-- Tree_eq1
namespace Go.Am
open Go.Proofs
set_option maxHeartbeats 4000000
set_option maxRecDepth 100000
attribute [-simp] rErr_len sErr_len shr_rErr shr_sErr shrs_rErr shrs_sErr noSh_rErr mErr_wr mErr_n rSlot_len sSlot_len shr_rSlot shr_sSlot shrs_rSlot shrs_sSlot noSh_rSlot mSlot_wr mSlot_n rRun_len sRun_len shr_rRun shr_sRun shrs_rRun shrs_sRun noSh_rRun mRun_wr mRun_n rJob_len sJob_len shr_rJob shr_sJob shrs_rJob shrs_sJob noSh_rJob mJob_wr mJob_n rOutcome_len sOutcome_len shr_rOutcome shr_sOutcome shrs_rOutcome shrs_sOutcome noSh_rOutcome mOutcome_wr mOutcome_n rTenant_len sTenant_len shr_rTenant shr_sTenant shrs_rTenant shrs_sTenant noSh_rTenant mTenant_wr mTenant_n map_rs_Slot map_rs_Err map_rs_Outcome uTenant_wr uTenant_n rConf_len sConf_len shr_rConf shr_sConf shrs_rConf shrs_sConf noSh_rConf mConf_wr mConf_n rLine_len sLine_len shr_rLine shr_sLine shrs_rLine shrs_sLine noSh_rLine mLine_wr mLine_n rStore_len sStore_len shr_rStore shr_sStore shrs_rStore shrs_sStore noSh_rStore mStore_wr mStore_n uStore_wr uStore_n noSh_sOutcome noSh_sSlot noSh_sErr noSh_tenant
-- 171 loop.example/g00485/laws.eqTree
def k_laws_eqTree : K :=
 .seq (
  .reg none [⟨(some 2), none, .box 128 1 (.t 0)⟩,
    ⟨(some 3), none, .box 128 1 (.t 1)⟩,
    ⟨(some 4), none, .asn (.c (.bool false))⟩]) (
 .seq (
  .seq (
   .reg none [⟨(some 5), none, .fad 0 (.t 2)⟩,
     ⟨(some 6), none, .ld 1 false (.t 5)⟩,
     ⟨(some 7), none, .fad 0 (.t 3)⟩,
     ⟨(some 8), none, .ld 1 false (.t 7)⟩,
     ⟨(some 9), none, .call 194 [(.t 6), (.t 8)]⟩,
     ⟨(some 10), none, .not (.t 9)⟩]) (
  .cond (.t 10) (
   .seq (
    .reg none [⟨(some 4), none, .asn (.c (.bool false))⟩]) (
   .ret)) (
   .skip))) (
 .seq (
  .reg none [⟨(some 4), none, .asn (.c (.bool true))⟩]) (
 .ret)))
def r_laws_eqTree : Nat × List RV := (11, [.t 4])

theorem c_laws_eqTree : cmpS PT PF PA (Try.prog.funcs[171]?) = some (r_laws_eqTree.1, r_laws_eqTree.2, stripK k_laws_eqTree) := by kernel_rfl

theorem h_eqTree (a : TTree) (ha : wTree a < 2 ^ 40) : CallsF Try.prog 171 [.agg (sTree a), .agg (sTree a)] (aB true) := by
  refine Prun c_laws_eqTree (by simp [r_laws_eqTree]) (by simp) ?_
  unfold k_laws_eqTree r_laws_eqTree
  simp only [wTree] at ha
  simp [sTree]
  refine callG_F (h_eqNodeS a.nodes (by omega)) (by simp) ?_
  simp
end Go.Am
-- Run_eq1
namespace Go.Am
open Go.Proofs
set_option maxHeartbeats 4000000
set_option maxRecDepth 100000
attribute [-simp] rJob_len sJob_len shr_rJob shr_sJob shrs_rJob shrs_sJob noSh_rJob mJob_wr mJob_n rOutcome_len sOutcome_len shr_rOutcome shr_sOutcome shrs_rOutcome shrs_sOutcome noSh_rOutcome mOutcome_wr mOutcome_n rTenant_len sTenant_len shr_rTenant shr_sTenant shrs_rTenant shrs_sTenant noSh_rTenant mTenant_wr mTenant_n map_rs_Slot map_rs_Err map_rs_Outcome uTenant_wr uTenant_n rConf_len sConf_len shr_rConf shr_sConf shrs_rConf shrs_sConf noSh_rConf mConf_wr mConf_n rLine_len sLine_len shr_rLine shr_sLine shrs_rLine shrs_sLine noSh_rLine mLine_wr mLine_n rStore_len sStore_len shr_rStore shr_sStore shrs_rStore shrs_sStore noSh_rStore mStore_wr mStore_n uStore_wr uStore_n noSh_sOutcome noSh_sSlot noSh_sErr noSh_tenant
-- 143 loop.example/g00485/laws.eqRun
def k_laws_eqRun : K :=
 .seq (
  .reg none [⟨(some 2), none, .box 131 7 (.t 0)⟩,
    ⟨(some 3), none, .box 131 7 (.t 1)⟩,
    ⟨(some 4), none, .asn (.c (.bool false))⟩]) (
 .seq (
  .seq (
   .reg none [⟨(some 5), none, .fad 0 (.t 2)⟩,
     ⟨(some 6), none, .ld 1 false (.t 5)⟩,
     ⟨(some 7), none, .fad 0 (.t 3)⟩,
     ⟨(some 8), none, .ld 1 false (.t 7)⟩,
     ⟨(some 9), none, .bin .neq (.t 6) (.t 8)⟩]) (
  .cond (.t 9) (
   .seq (
    .reg none [⟨(some 4), none, .asn (.c (.bool false))⟩]) (
   .ret)) (
   .skip))) (
 .seq (
  .seq (
   .reg none [⟨(some 10), none, .fad 1 (.t 2)⟩,
     ⟨(some 11), none, .ld 1 false (.t 10)⟩,
     ⟨(some 12), none, .fad 1 (.t 3)⟩,
     ⟨(some 13), none, .ld 1 false (.t 12)⟩,
     ⟨(some 14), none, .bin .neq (.t 11) (.t 13)⟩]) (
  .cond (.t 14) (
   .seq (
    .reg none [⟨(some 4), none, .asn (.c (.bool false))⟩]) (
   .ret)) (
   .skip))) (
 .seq (
  .seq (
   .reg none [⟨(some 15), none, .fad 2 (.t 2)⟩,
     ⟨(some 16), none, .ld 1 false (.t 15)⟩,
     ⟨(some 17), none, .fad 2 (.t 3)⟩,
     ⟨(some 18), none, .ld 1 false (.t 17)⟩,
     ⟨(some 19), none, .bin .neq (.t 16) (.t 18)⟩]) (
  .cond (.t 19) (
   .seq (
    .reg none [⟨(some 4), none, .asn (.c (.bool false))⟩]) (
   .ret)) (
   .skip))) (
 .seq (
  .seq (
   .reg none [⟨(some 20), none, .fad 3 (.t 2)⟩,
     ⟨(some 21), none, .ld 1 false (.t 20)⟩,
     ⟨(some 22), none, .fad 3 (.t 3)⟩,
     ⟨(some 23), none, .ld 1 false (.t 22)⟩,
     ⟨(some 24), none, .bin .neq (.t 21) (.t 23)⟩]) (
  .cond (.t 24) (
   .seq (
    .reg none [⟨(some 4), none, .asn (.c (.bool false))⟩]) (
   .ret)) (
   .skip))) (
 .seq (
  .seq (
   .reg none [⟨(some 25), none, .fad 4 (.t 2)⟩,
     ⟨(some 26), none, .ld 1 false (.t 25)⟩,
     ⟨(some 27), none, .fad 4 (.t 3)⟩,
     ⟨(some 28), none, .ld 1 false (.t 27)⟩,
     ⟨(some 29), none, .call 170 [(.t 26), (.t 28)]⟩,
     ⟨(some 30), none, .not (.t 29)⟩]) (
  .cond (.t 30) (
   .seq (
    .reg none [⟨(some 4), none, .asn (.c (.bool false))⟩]) (
   .ret)) (
   .skip))) (
 .seq (
  .seq (
   .reg none [⟨(some 31), none, .fad 5 (.t 2)⟩,
     ⟨(some 32), none, .ld 1 true (.t 31)⟩,
     ⟨(some 33), none, .fad 5 (.t 3)⟩,
     ⟨(some 34), none, .ld 1 true (.t 33)⟩,
     ⟨(some 35), none, .call 171 [(.t 32), (.t 34)]⟩,
     ⟨(some 36), none, .not (.t 35)⟩]) (
  .cond (.t 36) (
   .seq (
    .reg none [⟨(some 4), none, .asn (.c (.bool false))⟩]) (
   .ret)) (
   .skip))) (
 .seq (
  .seq (
   .reg none [⟨(some 37), none, .fad 6 (.t 2)⟩,
     ⟨(some 38), none, .ld 1 false (.t 37)⟩,
     ⟨(some 39), none, .fad 6 (.t 3)⟩,
     ⟨(some 40), none, .ld 1 false (.t 39)⟩,
     ⟨(some 41), none, .call 172 [(.t 38), (.t 40)]⟩,
     ⟨(some 42), none, .not (.t 41)⟩]) (
  .cond (.t 42) (
   .seq (
    .reg none [⟨(some 4), none, .asn (.c (.bool false))⟩]) (
   .ret)) (
   .skip))) (
 .seq (
  .reg none [⟨(some 4), none, .asn (.c (.bool true))⟩]) (
 .ret)))))))))
def r_laws_eqRun : Nat × List RV := (43, [.t 4])

theorem c_laws_eqRun : cmpS PT PF PA (Try.prog.funcs[143]?) = some (r_laws_eqRun.1, r_laws_eqRun.2, stripK k_laws_eqRun) := by kernel_rfl

theorem h_eqRun (a : TRun) (ha : wRun a < 2 ^ 40) : CallsF Try.prog 143 [.agg (sRun a), .agg (sRun a)] (aB true) := by
  refine Prun c_laws_eqRun (by simp [r_laws_eqRun]) (by simp) ?_
  unfold k_laws_eqRun r_laws_eqRun
  simp only [wRun] at ha
  simp [sRun]
  refine callG_F (h_eqSlotS a.slots (by omega)) (by simp) ?_
  simp
  refine callG_F (h_eqTree a.tree (by omega)) (by simp) ?_
  simp
  refine callG_F (h_eqErrS a.errs (by omega)) (by simp) ?_
  simp
end Go.Am
-- Job_eq1
namespace Go.Am
open Go.Proofs
set_option maxHeartbeats 4000000
set_option maxRecDepth 100000
attribute [-simp] rOutcome_len sOutcome_len shr_rOutcome shr_sOutcome shrs_rOutcome shrs_sOutcome noSh_rOutcome mOutcome_wr mOutcome_n rTenant_len sTenant_len shr_rTenant shr_sTenant shrs_rTenant shrs_sTenant noSh_rTenant mTenant_wr mTenant_n map_rs_Slot map_rs_Err map_rs_Outcome uTenant_wr uTenant_n rConf_len sConf_len shr_rConf shr_sConf shrs_rConf shrs_sConf noSh_rConf mConf_wr mConf_n rLine_len sLine_len shr_rLine shr_sLine shrs_rLine shrs_sLine noSh_rLine mLine_wr mLine_n rStore_len sStore_len shr_rStore shr_sStore shrs_rStore shrs_sStore noSh_rStore mStore_wr mStore_n uStore_wr uStore_n noSh_sOutcome noSh_sSlot noSh_sErr noSh_tenant
-- 97 loop.example/g00485/laws.eqJob
def k_laws_eqJob : K :=
 .seq (
  .reg none [⟨(some 2), none, .box 133 10 (.t 0)⟩,
    ⟨(some 3), none, .box 133 10 (.t 1)⟩,
    ⟨(some 4), none, .asn (.c (.bool false))⟩]) (
 .seq (
  .seq (
   .reg none [⟨(some 5), none, .fad 0 (.t 2)⟩,
     ⟨(some 6), none, .ld 1 false (.t 5)⟩,
     ⟨(some 7), none, .fad 0 (.t 3)⟩,
     ⟨(some 8), none, .ld 1 false (.t 7)⟩,
     ⟨(some 9), none, .bin .neq (.t 6) (.t 8)⟩]) (
  .cond (.t 9) (
   .seq (
    .reg none [⟨(some 4), none, .asn (.c (.bool false))⟩]) (
   .ret)) (
   .skip))) (
 .seq (
  .seq (
   .reg none [⟨(some 10), none, .fad 1 (.t 2)⟩,
     ⟨(some 11), none, .ld 1 false (.t 10)⟩,
     ⟨(some 12), none, .fad 1 (.t 3)⟩,
     ⟨(some 13), none, .ld 1 false (.t 12)⟩,
     ⟨(some 14), none, .bin .neq (.t 11) (.t 13)⟩]) (
  .cond (.t 14) (
   .seq (
    .reg none [⟨(some 4), none, .asn (.c (.bool false))⟩]) (
   .ret)) (
   .skip))) (
 .seq (
  .seq (
   .reg none [⟨(some 15), none, .fad 2 (.t 2)⟩,
     ⟨(some 16), none, .ld 1 false (.t 15)⟩,
     ⟨(some 17), none, .fad 2 (.t 3)⟩,
     ⟨(some 18), none, .ld 1 false (.t 17)⟩,
     ⟨(some 19), none, .call 22 [(.t 16), (.t 18)]⟩,
     ⟨(some 20), none, .not (.t 19)⟩]) (
  .cond (.t 20) (
   .seq (
    .reg none [⟨(some 4), none, .asn (.c (.bool false))⟩]) (
   .ret)) (
   .skip))) (
 .seq (
  .seq (
   .reg none [⟨(some 21), none, .fad 3 (.t 2)⟩,
     ⟨(some 22), none, .ld 7 true (.t 21)⟩,
     ⟨(some 23), none, .fad 3 (.t 3)⟩,
     ⟨(some 24), none, .ld 7 true (.t 23)⟩,
     ⟨(some 25), none, .call 143 [(.t 22), (.t 24)]⟩,
     ⟨(some 26), none, .not (.t 25)⟩]) (
  .cond (.t 26) (
   .seq (
    .reg none [⟨(some 4), none, .asn (.c (.bool false))⟩]) (
   .ret)) (
   .skip))) (
 .seq (
  .reg none [⟨(some 4), none, .asn (.c (.bool true))⟩]) (
 .ret))))))
def r_laws_eqJob : Nat × List RV := (27, [.t 4])

theorem c_laws_eqJob : cmpS PT PF PA (Try.prog.funcs[97]?) = some (r_laws_eqJob.1, r_laws_eqJob.2, stripK k_laws_eqJob) := by kernel_rfl

theorem h_eqJob (a : TJob) (ha : wJob a < 2 ^ 40) : CallsF Try.prog 97 [.agg (sJob a), .agg (sJob a)] (aB true) := by
  refine Prun c_laws_eqJob (by simp [r_laws_eqJob]) (by simp) ?_
  unfold k_laws_eqJob r_laws_eqJob
  simp only [wJob] at ha
  simp [sJob]
  refine callG_F (h_eqIntS a.input (by omega)) (by simp) ?_
  simp
  refine callG_F (h_eqRun a.run (by omega)) (by simp) ?_
  simp
end Go.Am
-- Job_eq
namespace Go.Am
open Go.Proofs
set_option maxHeartbeats 4000000
set_option maxRecDepth 100000
attribute [-simp] rOutcome_len sOutcome_len shr_rOutcome shr_sOutcome shrs_rOutcome shrs_sOutcome noSh_rOutcome mOutcome_wr mOutcome_n rTenant_len sTenant_len shr_rTenant shr_sTenant shrs_rTenant shrs_sTenant noSh_rTenant mTenant_wr mTenant_n map_rs_Slot map_rs_Err map_rs_Outcome uTenant_wr uTenant_n rConf_len sConf_len shr_rConf shr_sConf shrs_rConf shrs_sConf noSh_rConf mConf_wr mConf_n rLine_len sLine_len shr_rLine shr_sLine shrs_rLine shrs_sLine noSh_rLine mLine_wr mLine_n rStore_len sStore_len shr_rStore shr_sStore shrs_rStore shrs_sStore noSh_rStore mStore_wr mStore_n uStore_wr uStore_n noSh_sOutcome noSh_sSlot noSh_sErr noSh_tenant
-- 49 loop.example/g00485/laws.eqJobS
def k_laws_eqJobS : K :=
 .seq (
  .reg none [⟨(some 4), none, .asn (.c (.bool false))⟩]) (
 .seq (
  .seq (
   .reg none [⟨(some 6), none, .mv (.t 0)⟩,
     ⟨(some 7), none, .len (.t 6)⟩,
     ⟨(some 8), none, .mv (.t 1)⟩,
     ⟨(some 9), none, .len (.t 8)⟩,
     ⟨(some 10), none, .bin .neq (.t 7) (.t 9)⟩]) (
  .cond (.t 10) (
   .seq (
    .reg none [⟨(some 4), none, .asn (.c (.bool false))⟩]) (
   .ret)) (
   .skip))) (
 .seq (
  .seq (
   .reg none [⟨(some 5), none, .asn (.c (.int .i64 (0)))⟩]) (
  .block 0 (
   .loop (some ([0, 1, 5], [0, 1, 5, 1000])) (
    .seq (
     .seq (
      .reg none [⟨(some 11), none, .mv (.t 5)⟩,
        ⟨(some 12), none, .mv (.t 0)⟩,
        ⟨(some 13), none, .len (.t 12)⟩,
        ⟨(some 14), none, .bin .lss (.t 11) (.t 13)⟩]) (
     .cond (.t 14) (
      .skip) (
      .exit 0))) (
    .seq (
     .block 1 (
      .seq (
       .drw none 10 [⟨(some 17), none, .mv (.t 0)⟩,
         ⟨(some 18), none, .mv (.t 5)⟩,
         ⟨(some 19), none, .iad 10 (.t 17) (.t 18)⟩,
         ⟨(some 20), none, .ld 10 true (.t 19)⟩,
         ⟨(some 21), none, .mv (.t 1)⟩,
         ⟨(some 22), none, .mv (.t 5)⟩,
         ⟨(some 23), none, .iad 10 (.t 21) (.t 22)⟩,
         ⟨(some 24), none, .ld 10 true (.t 23)⟩,
         ⟨(some 25), none, .call 97 [(.t 20), (.t 24)]⟩,
         ⟨(some 26), none, .not (.t 25)⟩]) (
      .cond (.t 26) (
       .seq (
        .reg none [⟨(some 4), none, .asn (.c (.bool false))⟩]) (
       .ret)) (
       .skip)))) (
    .reg none [⟨(some 15), none, .mv (.t 5)⟩,
      ⟨(some 16), none, .bin .add (.t 15) (.c (.int .i64 (1)))⟩,
      ⟨(some 5), none, .asn (.t 16)⟩])))))) (
 .seq (
  .reg none [⟨(some 4), none, .asn (.c (.bool true))⟩]) (
 .ret))))
def r_laws_eqJobS : Nat × List RV := (27, [.t 4])

theorem c_laws_eqJobS : cmpS PT PF PA (Try.prog.funcs[49]?) = some (r_laws_eqJobS.1, r_laws_eqJobS.2, stripK k_laws_eqJobS) := by kernel_rfl

theorem h_eqJobS (xs : List TJob) (hx : wL wJob xs < 2 ^ 40) : CallsF Try.prog 49 [.one (.ar false 0 10 (xs.map sJob)), .one (.ar false 0 10 (xs.map sJob))] (aB true) := by
  refine Prun c_laws_eqJobS (by simp [r_laws_eqJobS]) (by simp) ?_
  unfold k_laws_eqJobS r_laws_eqJobS
  have hlen := wL_len wJob xs
  simp
  refine awp_loop (fun n σ => ∃ i : Nat, i ≤ xs.length ∧ n = xs.length - i ∧ σ = ⟨[(0, .one (.ar false 0 10 (xs.map sJob))), (1, .one (.ar false 0 10 (xs.map sJob))), (5, aI i)], []⟩) (xs.length) ⟨0, by simp⟩ ?_
  rintro n σ ⟨i, hi, rfl, rfl⟩
  by_cases h : i < xs.length
  · have hw := wL_get wJob xs i h
    simp [h, sJob]
    refine ⟨_, by simp, h_eqJob xs[i] (by omega), ?_⟩
    simp
    refine ⟨xs.length - (i + 1), by omega, i + 1, by omega, rfl, ?_⟩
    rw [wrapI (by omega) (by omega)]
    simp
  · simp [h]
end Go.Am
-- Outcome_eq1
namespace Go.Am
open Go.Proofs
set_option maxHeartbeats 4000000
set_option maxRecDepth 100000
attribute [-simp] rErr_len sErr_len shr_rErr shr_sErr shrs_rErr shrs_sErr noSh_rErr mErr_wr mErr_n rSlot_len sSlot_len shr_rSlot shr_sSlot shrs_rSlot shrs_sSlot noSh_rSlot mSlot_wr mSlot_n rNode_len sNode_len shr_rNode shr_sNode shrs_rNode shrs_sNode noSh_rNode mNode_wr mNode_n rTree_len sTree_len shr_rTree shr_sTree shrs_rTree shrs_sTree noSh_rTree mTree_wr mTree_n rRun_len sRun_len shr_rRun shr_sRun shrs_rRun shrs_sRun noSh_rRun mRun_wr mRun_n rJob_len sJob_len shr_rJob shr_sJob shrs_rJob shrs_sJob noSh_rJob mJob_wr mJob_n rTenant_len sTenant_len shr_rTenant shr_sTenant shrs_rTenant shrs_sTenant noSh_rTenant mTenant_wr mTenant_n map_rs_Slot map_rs_Err map_rs_Outcome uTenant_wr uTenant_n rConf_len sConf_len shr_rConf shr_sConf shrs_rConf shrs_sConf noSh_rConf mConf_wr mConf_n rLine_len sLine_len shr_rLine shr_sLine shrs_rLine shrs_sLine noSh_rLine mLine_wr mLine_n rStore_len sStore_len shr_rStore shr_sStore shrs_rStore shrs_sStore noSh_rStore mStore_wr mStore_n uStore_wr uStore_n noSh_sOutcome noSh_sSlot noSh_sErr noSh_tenant
-- 71 loop.example/g00485/laws.eqOutcome
def k_laws_eqOutcome : K :=
 .seq (
  .reg none [⟨(some 2), none, .box 102 3 (.t 0)⟩,
    ⟨(some 3), none, .box 102 3 (.t 1)⟩,
    ⟨(some 4), none, .asn (.c (.bool false))⟩]) (
 .seq (
  .seq (
   .reg none [⟨(some 5), none, .fad 0 (.t 2)⟩,
     ⟨(some 6), none, .ld 1 false (.t 5)⟩,
     ⟨(some 7), none, .fad 0 (.t 3)⟩,
     ⟨(some 8), none, .ld 1 false (.t 7)⟩,
     ⟨(some 9), none, .bin .neq (.t 6) (.t 8)⟩]) (
  .cond (.t 9) (
   .seq (
    .reg none [⟨(some 4), none, .asn (.c (.bool false))⟩]) (
   .ret)) (
   .skip))) (
 .seq (
  .seq (
   .reg none [⟨(some 10), none, .fad 1 (.t 2)⟩,
     ⟨(some 11), none, .ld 1 false (.t 10)⟩,
     ⟨(some 12), none, .fad 1 (.t 3)⟩,
     ⟨(some 13), none, .ld 1 false (.t 12)⟩,
     ⟨(some 14), none, .bin .neq (.t 11) (.t 13)⟩]) (
  .cond (.t 14) (
   .seq (
    .reg none [⟨(some 4), none, .asn (.c (.bool false))⟩]) (
   .ret)) (
   .skip))) (
 .seq (
  .seq (
   .reg none [⟨(some 15), none, .fad 2 (.t 2)⟩,
     ⟨(some 16), none, .ld 1 false (.t 15)⟩,
     ⟨(some 17), none, .fad 2 (.t 3)⟩,
     ⟨(some 18), none, .ld 1 false (.t 17)⟩,
     ⟨(some 19), none, .bin .neq (.t 16) (.t 18)⟩]) (
  .cond (.t 19) (
   .seq (
    .reg none [⟨(some 4), none, .asn (.c (.bool false))⟩]) (
   .ret)) (
   .skip))) (
 .seq (
  .reg none [⟨(some 4), none, .asn (.c (.bool true))⟩]) (
 .ret)))))
def r_laws_eqOutcome : Nat × List RV := (20, [.t 4])

theorem c_laws_eqOutcome : cmpS PT PF PA (Try.prog.funcs[71]?) = some (r_laws_eqOutcome.1, r_laws_eqOutcome.2, stripK k_laws_eqOutcome) := by kernel_rfl

theorem h_eqOutcome (a : TOutcome) (ha : wOutcome a < 2 ^ 40) : CallsF Try.prog 71 [.agg (sOutcome a), .agg (sOutcome a)] (aB true) := by
  refine Prun c_laws_eqOutcome (by simp [r_laws_eqOutcome]) (by simp) ?_
  unfold k_laws_eqOutcome r_laws_eqOutcome
  simp only [wOutcome] at ha
  simp [sOutcome]
end Go.Am
-- Outcome_eq
namespace Go.Am
open Go.Proofs
set_option maxHeartbeats 4000000
set_option maxRecDepth 100000
attribute [-simp] rErr_len sErr_len shr_rErr shr_sErr shrs_rErr shrs_sErr noSh_rErr mErr_wr mErr_n rSlot_len sSlot_len shr_rSlot shr_sSlot shrs_rSlot shrs_sSlot noSh_rSlot mSlot_wr mSlot_n rNode_len sNode_len shr_rNode shr_sNode shrs_rNode shrs_sNode noSh_rNode mNode_wr mNode_n rTree_len sTree_len shr_rTree shr_sTree shrs_rTree shrs_sTree noSh_rTree mTree_wr mTree_n rRun_len sRun_len shr_rRun shr_sRun shrs_rRun shrs_sRun noSh_rRun mRun_wr mRun_n rJob_len sJob_len shr_rJob shr_sJob shrs_rJob shrs_sJob noSh_rJob mJob_wr mJob_n rTenant_len sTenant_len shr_rTenant shr_sTenant shrs_rTenant shrs_sTenant noSh_rTenant mTenant_wr mTenant_n map_rs_Slot map_rs_Err map_rs_Outcome uTenant_wr uTenant_n rConf_len sConf_len shr_rConf shr_sConf shrs_rConf shrs_sConf noSh_rConf mConf_wr mConf_n rLine_len sLine_len shr_rLine shr_sLine shrs_rLine shrs_sLine noSh_rLine mLine_wr mLine_n rStore_len sStore_len shr_rStore shr_sStore shrs_rStore shrs_sStore noSh_rStore mStore_wr mStore_n uStore_wr uStore_n noSh_sOutcome noSh_sSlot noSh_sErr noSh_tenant
-- 31 loop.example/g00485/laws.eqOutcomeS
def k_laws_eqOutcomeS : K :=
 .seq (
  .reg none [⟨(some 4), none, .asn (.c (.bool false))⟩]) (
 .seq (
  .seq (
   .reg none [⟨(some 6), none, .mv (.t 0)⟩,
     ⟨(some 7), none, .len (.t 6)⟩,
     ⟨(some 8), none, .mv (.t 1)⟩,
     ⟨(some 9), none, .len (.t 8)⟩,
     ⟨(some 10), none, .bin .neq (.t 7) (.t 9)⟩]) (
  .cond (.t 10) (
   .seq (
    .reg none [⟨(some 4), none, .asn (.c (.bool false))⟩]) (
   .ret)) (
   .skip))) (
 .seq (
  .seq (
   .reg none [⟨(some 5), none, .asn (.c (.int .i64 (0)))⟩]) (
  .block 0 (
   .loop (some ([0, 1, 5], [0, 1, 5, 1000])) (
    .seq (
     .seq (
      .reg none [⟨(some 11), none, .mv (.t 5)⟩,
        ⟨(some 12), none, .mv (.t 0)⟩,
        ⟨(some 13), none, .len (.t 12)⟩,
        ⟨(some 14), none, .bin .lss (.t 11) (.t 13)⟩]) (
     .cond (.t 14) (
      .skip) (
      .exit 0))) (
    .seq (
     .block 1 (
      .seq (
       .drw none 10 [⟨(some 17), none, .mv (.t 0)⟩,
         ⟨(some 18), none, .mv (.t 5)⟩,
         ⟨(some 19), none, .iad 3 (.t 17) (.t 18)⟩,
         ⟨(some 20), none, .ld 3 true (.t 19)⟩,
         ⟨(some 21), none, .mv (.t 1)⟩,
         ⟨(some 22), none, .mv (.t 5)⟩,
         ⟨(some 23), none, .iad 3 (.t 21) (.t 22)⟩,
         ⟨(some 24), none, .ld 3 true (.t 23)⟩,
         ⟨(some 25), none, .call 71 [(.t 20), (.t 24)]⟩,
         ⟨(some 26), none, .not (.t 25)⟩]) (
      .cond (.t 26) (
       .seq (
        .reg none [⟨(some 4), none, .asn (.c (.bool false))⟩]) (
       .ret)) (
       .skip)))) (
    .reg none [⟨(some 15), none, .mv (.t 5)⟩,
      ⟨(some 16), none, .bin .add (.t 15) (.c (.int .i64 (1)))⟩,
      ⟨(some 5), none, .asn (.t 16)⟩])))))) (
 .seq (
  .reg none [⟨(some 4), none, .asn (.c (.bool true))⟩]) (
 .ret))))
def r_laws_eqOutcomeS : Nat × List RV := (27, [.t 4])

theorem c_laws_eqOutcomeS : cmpS PT PF PA (Try.prog.funcs[31]?) = some (r_laws_eqOutcomeS.1, r_laws_eqOutcomeS.2, stripK k_laws_eqOutcomeS) := by kernel_rfl

theorem h_eqOutcomeS (xs : List TOutcome) (hx : wL wOutcome xs < 2 ^ 40) : CallsF Try.prog 31 [.one (.ar false 0 3 (xs.map sOutcome)), .one (.ar false 0 3 (xs.map sOutcome))] (aB true) := by
  refine Prun c_laws_eqOutcomeS (by simp [r_laws_eqOutcomeS]) (by simp) ?_
  unfold k_laws_eqOutcomeS r_laws_eqOutcomeS
  have hlen := wL_len wOutcome xs
  simp
  refine awp_loop (fun n σ => ∃ i : Nat, i ≤ xs.length ∧ n = xs.length - i ∧ σ = ⟨[(0, .one (.ar false 0 3 (xs.map sOutcome))), (1, .one (.ar false 0 3 (xs.map sOutcome))), (5, aI i)], []⟩) (xs.length) ⟨0, by simp⟩ ?_
  rintro n σ ⟨i, hi, rfl, rfl⟩
  by_cases h : i < xs.length
  · have hw := wL_get wOutcome xs i h
    simp [h, sOutcome]
    refine ⟨_, by simp, h_eqOutcome xs[i] (by omega), ?_⟩
    simp
    refine ⟨xs.length - (i + 1), by omega, i + 1, by omega, rfl, ?_⟩
    rw [wrapI (by omega) (by omega)]
    simp
  · simp [h]
end Go.Am
-- Tenant_eq1
namespace Go.Am
open Go.Proofs
set_option maxHeartbeats 4000000
set_option maxRecDepth 100000
attribute [-simp] map_rs_Slot map_rs_Err map_rs_Outcome uTenant_wr uTenant_n rConf_len sConf_len shr_rConf shr_sConf shrs_rConf shrs_sConf noSh_rConf mConf_wr mConf_n rLine_len sLine_len shr_rLine shr_sLine shrs_rLine shrs_sLine noSh_rLine mLine_wr mLine_n rStore_len sStore_len shr_rStore shr_sStore shrs_rStore shrs_sStore noSh_rStore mStore_wr mStore_n uStore_wr uStore_n noSh_sOutcome noSh_sSlot noSh_sErr noSh_tenant
-- 12 loop.example/g00485/laws.eqTenant
def k_laws_eqTenant : K :=
 .seq (
  .reg none [⟨(some 2), none, .box 25 10 (.t 0)⟩,
    ⟨(some 3), none, .box 25 10 (.t 1)⟩,
    ⟨(some 4), none, .asn (.c (.bool false))⟩]) (
 .seq (
  .seq (
   .reg none [⟨(some 5), none, .fad 0 (.t 2)⟩,
     ⟨(some 6), none, .ld 1 false (.t 5)⟩,
     ⟨(some 7), none, .fad 0 (.t 3)⟩,
     ⟨(some 8), none, .ld 1 false (.t 7)⟩,
     ⟨(some 9), none, .bin .neq (.t 6) (.t 8)⟩]) (
  .cond (.t 9) (
   .seq (
    .reg none [⟨(some 4), none, .asn (.c (.bool false))⟩]) (
   .ret)) (
   .skip))) (
 .seq (
  .seq (
   .reg none [⟨(some 10), none, .fad 1 (.t 2)⟩,
     ⟨(some 11), none, .ld 1 false (.t 10)⟩,
     ⟨(some 12), none, .fad 1 (.t 3)⟩,
     ⟨(some 13), none, .ld 1 false (.t 12)⟩,
     ⟨(some 14), none, .bin .neq (.t 11) (.t 13)⟩]) (
  .cond (.t 14) (
   .seq (
    .reg none [⟨(some 4), none, .asn (.c (.bool false))⟩]) (
   .ret)) (
   .skip))) (
 .seq (
  .seq (
   .reg none [⟨(some 15), none, .fad 2 (.t 2)⟩,
     ⟨(some 16), none, .ld 1 false (.t 15)⟩,
     ⟨(some 17), none, .fad 2 (.t 3)⟩,
     ⟨(some 18), none, .ld 1 false (.t 17)⟩,
     ⟨(some 19), none, .bin .neq (.t 16) (.t 18)⟩]) (
  .cond (.t 19) (
   .seq (
    .reg none [⟨(some 4), none, .asn (.c (.bool false))⟩]) (
   .ret)) (
   .skip))) (
 .seq (
  .seq (
   .reg none [⟨(some 20), none, .fad 3 (.t 2)⟩,
     ⟨(some 21), none, .ld 1 false (.t 20)⟩,
     ⟨(some 22), none, .fad 3 (.t 3)⟩,
     ⟨(some 23), none, .ld 1 false (.t 22)⟩,
     ⟨(some 24), none, .bin .neq (.t 21) (.t 23)⟩]) (
  .cond (.t 24) (
   .seq (
    .reg none [⟨(some 4), none, .asn (.c (.bool false))⟩]) (
   .ret)) (
   .skip))) (
 .seq (
  .seq (
   .reg none [⟨(some 25), none, .fad 4 (.t 2)⟩,
     ⟨(some 26), none, .ld 1 false (.t 25)⟩,
     ⟨(some 27), none, .fad 4 (.t 3)⟩,
     ⟨(some 28), none, .ld 1 false (.t 27)⟩,
     ⟨(some 29), none, .bin .neq (.t 26) (.t 28)⟩]) (
  .cond (.t 29) (
   .seq (
    .reg none [⟨(some 4), none, .asn (.c (.bool false))⟩]) (
   .ret)) (
   .skip))) (
 .seq (
  .seq (
   .reg none [⟨(some 30), none, .fad 5 (.t 2)⟩,
     ⟨(some 31), none, .ld 1 false (.t 30)⟩,
     ⟨(some 32), none, .fad 5 (.t 3)⟩,
     ⟨(some 33), none, .ld 1 false (.t 32)⟩,
     ⟨(some 34), none, .bin .neq (.t 31) (.t 33)⟩]) (
  .cond (.t 34) (
   .seq (
    .reg none [⟨(some 4), none, .asn (.c (.bool false))⟩]) (
   .ret)) (
   .skip))) (
 .seq (
  .seq (
   .reg none [⟨(some 35), none, .fad 6 (.t 2)⟩,
     ⟨(some 36), none, .ld 1 false (.t 35)⟩,
     ⟨(some 37), none, .fad 6 (.t 3)⟩,
     ⟨(some 38), none, .ld 1 false (.t 37)⟩,
     ⟨(some 39), none, .bin .neq (.t 36) (.t 38)⟩]) (
  .cond (.t 39) (
   .seq (
    .reg none [⟨(some 4), none, .asn (.c (.bool false))⟩]) (
   .ret)) (
   .skip))) (
 .seq (
  .seq (
   .reg none [⟨(some 40), none, .fad 7 (.t 2)⟩,
     ⟨(some 41), none, .ld 1 false (.t 40)⟩,
     ⟨(some 42), none, .fad 7 (.t 3)⟩,
     ⟨(some 43), none, .ld 1 false (.t 42)⟩,
     ⟨(some 44), none, .bin .neq (.t 41) (.t 43)⟩]) (
  .cond (.t 44) (
   .seq (
    .reg none [⟨(some 4), none, .asn (.c (.bool false))⟩]) (
   .ret)) (
   .skip))) (
 .seq (
  .seq (
   .reg none [⟨(some 45), none, .fad 8 (.t 2)⟩,
     ⟨(some 46), none, .ld 1 false (.t 45)⟩,
     ⟨(some 47), none, .fad 8 (.t 3)⟩,
     ⟨(some 48), none, .ld 1 false (.t 47)⟩,
     ⟨(some 49), none, .call 49 [(.t 46), (.t 48)]⟩,
     ⟨(some 50), none, .not (.t 49)⟩]) (
  .cond (.t 50) (
   .seq (
    .reg none [⟨(some 4), none, .asn (.c (.bool false))⟩]) (
   .ret)) (
   .skip))) (
 .seq (
  .seq (
   .reg none [⟨(some 51), none, .fad 9 (.t 2)⟩,
     ⟨(some 52), none, .ld 1 false (.t 51)⟩,
     ⟨(some 53), none, .fad 9 (.t 3)⟩,
     ⟨(some 54), none, .ld 1 false (.t 53)⟩,
     ⟨(some 55), none, .call 31 [(.t 52), (.t 54)]⟩,
     ⟨(some 56), none, .not (.t 55)⟩]) (
  .cond (.t 56) (
   .seq (
    .reg none [⟨(some 4), none, .asn (.c (.bool false))⟩]) (
   .ret)) (
   .skip))) (
 .seq (
  .reg none [⟨(some 4), none, .asn (.c (.bool true))⟩]) (
 .ret))))))))))))
def r_laws_eqTenant : Nat × List RV := (57, [.t 4])

theorem c_laws_eqTenant : cmpS PT PF PA (Try.prog.funcs[12]?) = some (r_laws_eqTenant.1, r_laws_eqTenant.2, stripK k_laws_eqTenant) := by kernel_rfl

theorem h_eqTenant (a : TTenant) (ha : wTenant a < 2 ^ 40) : CallsF Try.prog 12 [.agg (sTenant a), .agg (sTenant a)] (aB true) := by
  refine Prun c_laws_eqTenant (by simp [r_laws_eqTenant]) (by simp) ?_
  unfold k_laws_eqTenant r_laws_eqTenant
  simp only [wTenant] at ha
  simp [sTenant]
  refine callG_F (h_eqJobS a.queue (by omega)) (by simp) ?_
  simp
  refine callG_F (h_eqOutcomeS a.out (by omega)) (by simp) ?_
  simp
end Go.Am
-- intk
namespace Go.Am
open Go.Proofs
set_option maxHeartbeats 4000000
set_option maxRecDepth 100000
attribute [-simp] rErr_len sErr_len shr_rErr shr_sErr shrs_rErr shrs_sErr noSh_rErr mErr_wr mErr_n rSlot_len sSlot_len shr_rSlot shr_sSlot shrs_rSlot shrs_sSlot noSh_rSlot mSlot_wr mSlot_n rNode_len sNode_len shr_rNode shr_sNode shrs_rNode shrs_sNode noSh_rNode mNode_wr mNode_n rTree_len sTree_len shr_rTree shr_sTree shrs_rTree shrs_sTree noSh_rTree mTree_wr mTree_n rRun_len sRun_len shr_rRun shr_sRun shrs_rRun shrs_sRun noSh_rRun mRun_wr mRun_n rJob_len sJob_len shr_rJob shr_sJob shrs_rJob shrs_sJob noSh_rJob mJob_wr mJob_n rOutcome_len sOutcome_len shr_rOutcome shr_sOutcome shrs_rOutcome shrs_sOutcome noSh_rOutcome mOutcome_wr mOutcome_n rTenant_len sTenant_len shr_rTenant shr_sTenant shrs_rTenant shrs_sTenant noSh_rTenant mTenant_wr mTenant_n map_rs_Slot map_rs_Err map_rs_Outcome uTenant_wr uTenant_n rConf_len sConf_len shr_rConf shr_sConf shrs_rConf shrs_sConf noSh_rConf mConf_wr mConf_n rLine_len sLine_len shr_rLine shr_sLine shrs_rLine shrs_sLine noSh_rLine mLine_wr mLine_n rStore_len sStore_len shr_rStore shr_sStore shrs_rStore shrs_sStore noSh_rStore mStore_wr mStore_n uStore_wr uStore_n noSh_sOutcome noSh_sSlot noSh_sErr noSh_tenant
-- 24 loop.example/g00485/laws.markIntS
def k_laws_markIntS : K :=
 .seq (
  .reg none [⟨(some 4), none, .asn (.c (.int .i64 (0)))⟩]) (
 .seq (
  .seq (
   .reg none [⟨(some 5), none, .asn (.c (.int .i64 (0)))⟩]) (
  .block 0 (
   .loop (some ([0, 1, 5], [0, 1, 5, 1000])) (
    .seq (
     .seq (
      .reg none [⟨(some 6), none, .mv (.t 5)⟩,
        ⟨(some 7), none, .mv (.t 0)⟩,
        ⟨(some 8), none, .len (.t 7)⟩,
        ⟨(some 9), none, .bin .lss (.t 6) (.t 8)⟩]) (
     .cond (.t 9) (
      .skip) (
      .exit 0))) (
    .seq (
     .block 1 (
      .seq (
       .reg none [⟨(some 12), none, .mv (.t 0)⟩,
         ⟨(some 13), none, .mv (.t 5)⟩,
         ⟨(some 14), none, .mv (.t 1)⟩,
         ⟨(some 15), none, .iad 1 (.t 12) (.t 13)⟩,
         ⟨none, none, .st 1 false (.t 15) (.t 14)⟩]) (
      .reg none [⟨(some 16), none, .mv (.t 1)⟩,
        ⟨(some 17), none, .bin .add (.t 16) (.c (.int .i64 (1)))⟩,
        ⟨(some 1), none, .asn (.t 17)⟩]))) (
    .reg none [⟨(some 10), none, .mv (.t 5)⟩,
      ⟨(some 11), none, .bin .add (.t 10) (.c (.int .i64 (1)))⟩,
      ⟨(some 5), none, .asn (.t 11)⟩])))))) (
 .seq (
  .reg none [⟨(some 18), none, .mv (.t 1)⟩,
    ⟨(some 4), none, .asn (.t 18)⟩]) (
 .ret)))
def r_laws_markIntS : Nat × List RV := (19, [.t 4])

theorem c_laws_markIntS : cmpS PT PF PB (Try.prog.funcs[24]?) = some (r_laws_markIntS.1, r_laws_markIntS.2, stripK k_laws_markIntS) := by kernel_rfl

theorem h_markIntS (t : Nat) (xs : List Int) (k : Int) (hk : 0 ≤ k) (hk2 : k + mI.nL xs < 2 ^ 50) :
    CallsB Try.prog 24 [.one (.vw t 1 1000 [] 0 xs.length), aI k] ⟨t, 1, xs.map rI⟩ ⟨t, 1, (mI.mkL xs k).map rI⟩ (aI (k + mI.nL xs)) := by
  refine PrunB c_laws_markIntS (by simp [r_laws_markIntS]) (by simp) ?_
  unfold k_laws_markIntS r_laws_markIntS
  have hn : (mI.nL xs : Int) = xs.length := by simp [mI_n]
  simp
  refine awp_loop (fun n σ => ∃ i : Nat, i ≤ xs.length ∧ n = xs.length - i ∧ σ = ⟨[(0, .one (.vw t 1 1000 [] 0 xs.length)), (1, aI (mI.pos xs k i)), (5, aI i)], [(1000, ⟨t, 1, (mI.upto xs k i).map rI⟩)]⟩) (xs.length) ⟨0, by simp [Mk.upto_zero, Mk.pos_zero]⟩ ?_
  rintro n σ ⟨i, hi, rfl, rfl⟩
  have hp1 : mI.pos xs k i ≤ k + mI.nL xs := Mk.pos_le hi
  have hp2 : k ≤ mI.pos xs k i := Mk.pos_ge
  by_cases h : i < xs.length
  · have hpst : mI.pos xs k (i + 1) = mI.pos xs k i + 1 := Mk.pos_step h
    have hst := Mk.upto_set (M := mI) (k := k) h
    have hle : mI.pos xs k (i + 1) ≤ k + mI.nL xs := Mk.pos_le h
    have w1 : IntKind.i64.wrap (mI.pos xs k i + 1) = mI.pos xs k (i + 1) := by rw [wrapI (by omega) (by omega), hpst]
    have w2 : IntKind.i64.wrap ((i : Int) + 1) = i + 1 := wrapI (by omega) (by omega)
    simp [h, w1, w2]
    refine ⟨xs.length - (i + 1), by omega, i + 1, by omega, rfl, ?_⟩
    rw [← hst]
    simp
  · have : i = xs.length := by omega
    subst this
    simp [Mk.upto_all, Mk.pos_all]
end Go.Am
-- Err_mk
namespace Go.Am
open Go.Proofs
set_option maxHeartbeats 4000000
set_option maxRecDepth 100000
attribute [-simp] rSlot_len sSlot_len shr_rSlot shr_sSlot shrs_rSlot shrs_sSlot noSh_rSlot mSlot_wr mSlot_n rNode_len sNode_len shr_rNode shr_sNode shrs_rNode shrs_sNode noSh_rNode mNode_wr mNode_n rTree_len sTree_len shr_rTree shr_sTree shrs_rTree shrs_sTree noSh_rTree mTree_wr mTree_n rRun_len sRun_len shr_rRun shr_sRun shrs_rRun shrs_sRun noSh_rRun mRun_wr mRun_n rJob_len sJob_len shr_rJob shr_sJob shrs_rJob shrs_sJob noSh_rJob mJob_wr mJob_n rOutcome_len sOutcome_len shr_rOutcome shr_sOutcome shrs_rOutcome shrs_sOutcome noSh_rOutcome mOutcome_wr mOutcome_n rTenant_len sTenant_len shr_rTenant shr_sTenant shrs_rTenant shrs_sTenant noSh_rTenant mTenant_wr mTenant_n map_rs_Slot map_rs_Err map_rs_Outcome uTenant_wr uTenant_n rConf_len sConf_len shr_rConf shr_sConf shrs_rConf shrs_sConf noSh_rConf mConf_wr mConf_n rLine_len sLine_len shr_rLine shr_sLine shrs_rLine shrs_sLine noSh_rLine mLine_wr mLine_n rStore_len sStore_len shr_rStore shr_sStore shrs_rStore shrs_sStore noSh_rStore mStore_wr mStore_n uStore_wr uStore_n noSh_sOutcome noSh_sSlot noSh_sErr noSh_tenant
-- 100 loop.example/g00485/laws.markErrS
def k_laws_markErrS : K :=
 .seq (
  .reg none [⟨(some 4), none, .asn (.c (.int .i64 (0)))⟩]) (
 .seq (
  .seq (
   .reg none [⟨(some 5), none, .asn (.c (.int .i64 (0)))⟩]) (
  .block 0 (
   .loop (some ([0, 1, 5], [0, 1, 5, 1000])) (
    .seq (
     .seq (
      .reg none [⟨(some 6), none, .mv (.t 5)⟩,
        ⟨(some 7), none, .mv (.t 0)⟩,
        ⟨(some 8), none, .len (.t 7)⟩,
        ⟨(some 9), none, .bin .lss (.t 6) (.t 8)⟩]) (
     .cond (.t 9) (
      .skip) (
      .exit 0))) (
    .seq (
     .block 1 (
      .seq (
       .reg none [⟨(some 12), none, .mv (.t 0)⟩,
         ⟨(some 13), none, .mv (.t 5)⟩,
         ⟨(some 14), none, .mv (.t 1)⟩,
         ⟨(some 15), none, .iad 3 (.t 12) (.t 13)⟩,
         ⟨(some 16), none, .fad 0 (.t 15)⟩,
         ⟨none, none, .st 1 false (.t 16) (.t 14)⟩]) (
      .seq (
       .reg none [⟨(some 17), none, .mv (.t 1)⟩,
         ⟨(some 18), none, .bin .add (.t 17) (.c (.int .i64 (1)))⟩,
         ⟨(some 1), none, .asn (.t 18)⟩]) (
      .seq (
       .reg none [⟨(some 19), none, .mv (.t 0)⟩,
         ⟨(some 20), none, .mv (.t 5)⟩,
         ⟨(some 21), none, .mv (.t 1)⟩,
         ⟨(some 22), none, .iad 3 (.t 19) (.t 20)⟩,
         ⟨(some 23), none, .fad 1 (.t 22)⟩,
         ⟨none, none, .st 1 false (.t 23) (.t 21)⟩]) (
      .seq (
       .reg none [⟨(some 24), none, .mv (.t 1)⟩,
         ⟨(some 25), none, .bin .add (.t 24) (.c (.int .i64 (1)))⟩,
         ⟨(some 1), none, .asn (.t 25)⟩]) (
      .seq (
       .reg none [⟨(some 26), none, .mv (.t 0)⟩,
         ⟨(some 27), none, .mv (.t 5)⟩,
         ⟨(some 28), none, .mv (.t 1)⟩,
         ⟨(some 29), none, .iad 3 (.t 26) (.t 27)⟩,
         ⟨(some 30), none, .fad 2 (.t 29)⟩,
         ⟨none, none, .st 1 false (.t 30) (.t 28)⟩]) (
      .reg none [⟨(some 31), none, .mv (.t 1)⟩,
        ⟨(some 32), none, .bin .add (.t 31) (.c (.int .i64 (1)))⟩,
        ⟨(some 1), none, .asn (.t 32)⟩]))))))) (
    .reg none [⟨(some 10), none, .mv (.t 5)⟩,
      ⟨(some 11), none, .bin .add (.t 10) (.c (.int .i64 (1)))⟩,
      ⟨(some 5), none, .asn (.t 11)⟩])))))) (
 .seq (
  .reg none [⟨(some 33), none, .mv (.t 1)⟩,
    ⟨(some 4), none, .asn (.t 33)⟩]) (
 .ret)))
def r_laws_markErrS : Nat × List RV := (34, [.t 4])

theorem c_laws_markErrS : cmpS PT PF PB (Try.prog.funcs[100]?) = some (r_laws_markErrS.1, r_laws_markErrS.2, stripK k_laws_markErrS) := by kernel_rfl

theorem h_markErrS (t : Nat) (xs : List TErr) (k : Int) (hk : 0 ≤ k) (hk2 : k + mErr.nL xs < 2 ^ 50) (hk3 : wL wErr xs < 2 ^ 50) :
    CallsB Try.prog 100 [.one (.vw t 3 1000 [] 0 xs.length), aI k] ⟨t, 3, xs.map rErr⟩ ⟨t, 3, (mErr.mkL xs k).map rErr⟩ (aI (k + mErr.nL xs)) := by
  refine PrunB c_laws_markErrS (by simp [r_laws_markErrS]) (by simp) ?_
  unfold k_laws_markErrS r_laws_markErrS
  have hlen := wL_len wErr xs
  simp
  refine awp_loop (fun n σ => ∃ i : Nat, i ≤ xs.length ∧ n = xs.length - i ∧ σ = ⟨[(0, .one (.vw t 3 1000 [] 0 xs.length)), (1, aI (mErr.pos xs k i)), (5, aI i)], [(1000, ⟨t, 3, (mErr.upto xs k i).map rErr⟩)]⟩) (xs.length) ⟨0, by simp [Mk.upto_zero, Mk.pos_zero]⟩ ?_
  rintro n σ ⟨i, hi, rfl, rfl⟩
  have hp1 : mErr.pos xs k i ≤ k + mErr.nL xs := Mk.pos_le hi
  have hp2 : k ≤ mErr.pos xs k i := Mk.pos_ge
  by_cases h : i < xs.length
  · have hw := wL_get wErr xs i h
    have hpst : mErr.pos xs k (i + 1) = mErr.pos xs k i + mErr.n xs[i] := Mk.pos_step h
    have hle : mErr.pos xs k (i + 1) ≤ k + mErr.nL xs := Mk.pos_le h
    have hst := Mk.upto_set (M := mErr) (k := k) h
    have hga := Mk.upto_at (M := mErr) (k := k) h
    have hll := Mk.upto_len (M := mErr) (xs := xs) (k := k) (i := i)
    generalize mErr.upto xs k i = us at *
    generalize hκ : mErr.pos xs k i = p0 at *
    rcases ha : xs[i] with ⟨bkind, bpos, bsym⟩
    simp only [ha, mErr_n, mErr_wr] at hpst hga hst
    simp only [ha, wErr] at hw
    obtain ⟨p1, hq1⟩ : ∃ p : Int, p = p0 + 1 := ⟨_, rfl⟩
    have ww0 : IntKind.i64.wrap (p0 + 1) = p1 := by rw [wrapI (by omega) (by omega), hq1]
    have nn0 : ¬ p1 < 0 := by omega
    obtain ⟨p2, hq2⟩ : ∃ p : Int, p = p1 + 1 := ⟨_, rfl⟩
    have ww1 : IntKind.i64.wrap (p1 + 1) = p2 := by rw [wrapI (by omega) (by omega), hq2]
    have nn1 : ¬ p2 < 0 := by omega
    obtain ⟨p3, hq3⟩ : ∃ p : Int, p = p2 + 1 := ⟨_, rfl⟩
    have ww2 : IntKind.i64.wrap (p2 + 1) = p3 := by rw [wrapI (by omega) (by omega), hq3]
    have nn2 : ¬ p3 < 0 := by omega
    simp only [← hq1, ← hq2, ← hq3] at hga hst
    simp [h, hga, hll, rErr, ww0, nn0, ww1, nn1, ww2, nn2]
    refine ⟨xs.length - (i + 1), by omega, i + 1, by omega, rfl, ?_⟩
    rw [wrapI (by omega) (by omega)]
    rw [← hst]
    simp [rErr]
    omega
  · have : i = xs.length := by omega
    subst this
    simp [Mk.upto_all, Mk.pos_all]
end Go.Am
-- Node_mk
namespace Go.Am
open Go.Proofs
set_option maxHeartbeats 4000000
set_option maxRecDepth 100000
attribute [-simp] rErr_len sErr_len shr_rErr shr_sErr shrs_rErr shrs_sErr noSh_rErr mErr_wr mErr_n rSlot_len sSlot_len shr_rSlot shr_sSlot shrs_rSlot shrs_sSlot noSh_rSlot mSlot_wr mSlot_n rTree_len sTree_len shr_rTree shr_sTree shrs_rTree shrs_sTree noSh_rTree mTree_wr mTree_n rRun_len sRun_len shr_rRun shr_sRun shrs_rRun shrs_sRun noSh_rRun mRun_wr mRun_n rJob_len sJob_len shr_rJob shr_sJob shrs_rJob shrs_sJob noSh_rJob mJob_wr mJob_n rOutcome_len sOutcome_len shr_rOutcome shr_sOutcome shrs_rOutcome shrs_sOutcome noSh_rOutcome mOutcome_wr mOutcome_n rTenant_len sTenant_len shr_rTenant shr_sTenant shrs_rTenant shrs_sTenant noSh_rTenant mTenant_wr mTenant_n map_rs_Slot map_rs_Err map_rs_Outcome uTenant_wr uTenant_n rConf_len sConf_len shr_rConf shr_sConf shrs_rConf shrs_sConf noSh_rConf mConf_wr mConf_n rLine_len sLine_len shr_rLine shr_sLine shrs_rLine shrs_sLine noSh_rLine mLine_wr mLine_n rStore_len sStore_len shr_rStore shr_sStore shrs_rStore shrs_sStore noSh_rStore mStore_wr mStore_n uStore_wr uStore_n noSh_sOutcome noSh_sSlot noSh_sErr noSh_tenant
-- 99 loop.example/g00485/laws.markNodeS
def k_laws_markNodeS : K :=
 .seq (
  .reg none [⟨(some 4), none, .asn (.c (.int .i64 (0)))⟩]) (
 .seq (
  .seq (
   .reg none [⟨(some 5), none, .asn (.c (.int .i64 (0)))⟩]) (
  .block 0 (
   .loop (some ([0, 1, 5], [0, 1, 5, 1000])) (
    .seq (
     .seq (
      .reg none [⟨(some 6), none, .mv (.t 5)⟩,
        ⟨(some 7), none, .mv (.t 0)⟩,
        ⟨(some 8), none, .len (.t 7)⟩,
        ⟨(some 9), none, .bin .lss (.t 6) (.t 8)⟩]) (
     .cond (.t 9) (
      .skip) (
      .exit 0))) (
    .seq (
     .block 1 (
      .seq (
       .reg none [⟨(some 12), none, .mv (.t 0)⟩,
         ⟨(some 13), none, .mv (.t 5)⟩,
         ⟨(some 14), none, .mv (.t 1)⟩,
         ⟨(some 15), none, .iad 5 (.t 12) (.t 13)⟩,
         ⟨(some 16), none, .fad 0 (.t 15)⟩,
         ⟨none, none, .st 1 false (.t 16) (.t 14)⟩]) (
      .seq (
       .reg none [⟨(some 17), none, .mv (.t 1)⟩,
         ⟨(some 18), none, .bin .add (.t 17) (.c (.int .i64 (1)))⟩,
         ⟨(some 1), none, .asn (.t 18)⟩]) (
      .seq (
       .reg none [⟨(some 19), none, .mv (.t 0)⟩,
         ⟨(some 20), none, .mv (.t 5)⟩,
         ⟨(some 21), none, .mv (.t 1)⟩,
         ⟨(some 22), none, .iad 5 (.t 19) (.t 20)⟩,
         ⟨(some 23), none, .fad 1 (.t 22)⟩,
         ⟨none, none, .st 1 false (.t 23) (.t 21)⟩]) (
      .seq (
       .reg none [⟨(some 24), none, .mv (.t 1)⟩,
         ⟨(some 25), none, .bin .add (.t 24) (.c (.int .i64 (1)))⟩,
         ⟨(some 1), none, .asn (.t 25)⟩]) (
      .seq (
       .reg none [⟨(some 26), none, .mv (.t 0)⟩,
         ⟨(some 27), none, .mv (.t 5)⟩,
         ⟨(some 28), none, .mv (.t 1)⟩,
         ⟨(some 29), none, .iad 5 (.t 26) (.t 27)⟩,
         ⟨(some 30), none, .fad 2 (.t 29)⟩,
         ⟨none, none, .st 1 false (.t 30) (.t 28)⟩]) (
      .seq (
       .reg none [⟨(some 31), none, .mv (.t 1)⟩,
         ⟨(some 32), none, .bin .add (.t 31) (.c (.int .i64 (1)))⟩,
         ⟨(some 1), none, .asn (.t 32)⟩]) (
      .seq (
       .reg none [⟨(some 33), none, .mv (.t 0)⟩,
         ⟨(some 34), none, .mv (.t 5)⟩,
         ⟨(some 35), none, .mv (.t 1)⟩,
         ⟨(some 36), none, .iad 5 (.t 33) (.t 34)⟩,
         ⟨(some 37), none, .fad 3 (.t 36)⟩,
         ⟨none, none, .st 1 false (.t 37) (.t 35)⟩]) (
      .seq (
       .reg none [⟨(some 38), none, .mv (.t 1)⟩,
         ⟨(some 39), none, .bin .add (.t 38) (.c (.int .i64 (1)))⟩,
         ⟨(some 1), none, .asn (.t 39)⟩]) (
      .reg none [⟨(some 40), none, .mv (.t 0)⟩,
        ⟨(some 41), none, .mv (.t 5)⟩,
        ⟨(some 42), none, .iad 5 (.t 40) (.t 41)⟩,
        ⟨(some 43), none, .fad 4 (.t 42)⟩,
        ⟨(some 44), none, .ld 1 false (.t 43)⟩,
        ⟨(some 45), none, .mv (.t 1)⟩,
        ⟨(some 46), none, .callr 24 (.t 44) [(.t 44), (.t 45)]⟩,
        ⟨(some 1), none, .asn (.t 46)⟩])))))))))) (
    .reg none [⟨(some 10), none, .mv (.t 5)⟩,
      ⟨(some 11), none, .bin .add (.t 10) (.c (.int .i64 (1)))⟩,
      ⟨(some 5), none, .asn (.t 11)⟩])))))) (
 .seq (
  .reg none [⟨(some 47), none, .mv (.t 1)⟩,
    ⟨(some 4), none, .asn (.t 47)⟩]) (
 .ret)))
def r_laws_markNodeS : Nat × List RV := (48, [.t 4])

theorem c_laws_markNodeS : cmpS PT PF PB (Try.prog.funcs[99]?) = some (r_laws_markNodeS.1, r_laws_markNodeS.2, stripK k_laws_markNodeS) := by kernel_rfl

theorem h_markNodeS (t : Nat) (xs : List TNode) (k : Int) (hk : 0 ≤ k) (hk2 : k + mNode.nL xs < 2 ^ 50) (hk3 : wL wNode xs < 2 ^ 50) :
    CallsB Try.prog 99 [.one (.vw t 5 1000 [] 0 xs.length), aI k] ⟨t, 5, xs.map rNode⟩ ⟨t, 5, (mNode.mkL xs k).map rNode⟩ (aI (k + mNode.nL xs)) := by
  refine PrunB c_laws_markNodeS (by simp [r_laws_markNodeS]) (by simp) ?_
  unfold k_laws_markNodeS r_laws_markNodeS
  have hlen := wL_len wNode xs
  simp
  refine awp_loop (fun n σ => ∃ i : Nat, i ≤ xs.length ∧ n = xs.length - i ∧ σ = ⟨[(0, .one (.vw t 5 1000 [] 0 xs.length)), (1, aI (mNode.pos xs k i)), (5, aI i)], [(1000, ⟨t, 5, (mNode.upto xs k i).map rNode⟩)]⟩) (xs.length) ⟨0, by simp [Mk.upto_zero, Mk.pos_zero]⟩ ?_
  rintro n σ ⟨i, hi, rfl, rfl⟩
  have hp1 : mNode.pos xs k i ≤ k + mNode.nL xs := Mk.pos_le hi
  have hp2 : k ≤ mNode.pos xs k i := Mk.pos_ge
  by_cases h : i < xs.length
  · have hw := wL_get wNode xs i h
    have hpst : mNode.pos xs k (i + 1) = mNode.pos xs k i + mNode.n xs[i] := Mk.pos_step h
    have hle : mNode.pos xs k (i + 1) ≤ k + mNode.nL xs := Mk.pos_le h
    have hst := Mk.upto_set (M := mNode) (k := k) h
    have hga := Mk.upto_at (M := mNode) (k := k) h
    have hll := Mk.upto_len (M := mNode) (xs := xs) (k := k) (i := i)
    generalize mNode.upto xs k i = us at *
    generalize hκ : mNode.pos xs k i = p0 at *
    rcases ha : xs[i] with ⟨bkind, bsym, balt, bpos, bkids⟩
    simp only [ha, mNode_n, mNode_wr] at hpst hga hst
    simp only [ha, wNode] at hw
    obtain ⟨p1, hq1⟩ : ∃ p : Int, p = p0 + 1 := ⟨_, rfl⟩
    have ww0 : IntKind.i64.wrap (p0 + 1) = p1 := by rw [wrapI (by omega) (by omega), hq1]
    have nn0 : ¬ p1 < 0 := by omega
    obtain ⟨p2, hq2⟩ : ∃ p : Int, p = p1 + 1 := ⟨_, rfl⟩
    have ww1 : IntKind.i64.wrap (p1 + 1) = p2 := by rw [wrapI (by omega) (by omega), hq2]
    have nn1 : ¬ p2 < 0 := by omega
    obtain ⟨p3, hq3⟩ : ∃ p : Int, p = p2 + 1 := ⟨_, rfl⟩
    have ww2 : IntKind.i64.wrap (p2 + 1) = p3 := by rw [wrapI (by omega) (by omega), hq3]
    have nn2 : ¬ p3 < 0 := by omega
    obtain ⟨p4, hq4⟩ : ∃ p : Int, p = p3 + 1 := ⟨_, rfl⟩
    have ww3 : IntKind.i64.wrap (p3 + 1) = p4 := by rw [wrapI (by omega) (by omega), hq4]
    have nn3 : ¬ p4 < 0 := by omega
    obtain ⟨p5, hq5⟩ : ∃ p : Int, p = p4 + (mI.nL bkids : Int) := ⟨_, rfl⟩
    have nn4 : ¬ p5 < 0 := by omega
    simp only [← hq1, ← hq2, ← hq3, ← hq4, ← hq5] at hga hst
    simp [h, hga, hll, rNode, ww0, nn0, ww1, nn1, ww2, nn2, ww3, nn3, nn4]
    have hc4 := h_markIntS 3 bkids p4 (by omega) (by omega)
    rw [← hq5] at hc4
    refine callRG_F hc4 rfl rfl (by simp) (by simp) ?_
    simp [h, hga, hll, rNode, ww0, nn0, ww1, nn1, ww2, nn2, ww3, nn3, nn4]
    refine ⟨xs.length - (i + 1), by omega, i + 1, by omega, rfl, ?_⟩
    rw [wrapI (by omega) (by omega)]
    rw [← hst]
    simp [rNode]
    omega
  · have : i = xs.length := by omega
    subst this
    simp [Mk.upto_all, Mk.pos_all]
end Go.Am
-- Slot_mk
namespace Go.Am
open Go.Proofs
set_option maxHeartbeats 4000000
set_option maxRecDepth 100000
attribute [-simp] rErr_len sErr_len shr_rErr shr_sErr shrs_rErr shrs_sErr noSh_rErr mErr_wr mErr_n rNode_len sNode_len shr_rNode shr_sNode shrs_rNode shrs_sNode noSh_rNode mNode_wr mNode_n rTree_len sTree_len shr_rTree shr_sTree shrs_rTree shrs_sTree noSh_rTree mTree_wr mTree_n rRun_len sRun_len shr_rRun shr_sRun shrs_rRun shrs_sRun noSh_rRun mRun_wr mRun_n rJob_len sJob_len shr_rJob shr_sJob shrs_rJob shrs_sJob noSh_rJob mJob_wr mJob_n rOutcome_len sOutcome_len shr_rOutcome shr_sOutcome shrs_rOutcome shrs_sOutcome noSh_rOutcome mOutcome_wr mOutcome_n rTenant_len sTenant_len shr_rTenant shr_sTenant shrs_rTenant shrs_sTenant noSh_rTenant mTenant_wr mTenant_n map_rs_Slot map_rs_Err map_rs_Outcome uTenant_wr uTenant_n rConf_len sConf_len shr_rConf shr_sConf shrs_rConf shrs_sConf noSh_rConf mConf_wr mConf_n rLine_len sLine_len shr_rLine shr_sLine shrs_rLine shrs_sLine noSh_rLine mLine_wr mLine_n rStore_len sStore_len shr_rStore shr_sStore shrs_rStore shrs_sStore noSh_rStore mStore_wr mStore_n uStore_wr uStore_n noSh_sOutcome noSh_sSlot noSh_sErr noSh_tenant
-- 98 loop.example/g00485/laws.markSlotS
def k_laws_markSlotS : K :=
 .seq (
  .reg none [⟨(some 4), none, .asn (.c (.int .i64 (0)))⟩]) (
 .seq (
  .seq (
   .reg none [⟨(some 5), none, .asn (.c (.int .i64 (0)))⟩]) (
  .block 0 (
   .loop (some ([0, 1, 5], [0, 1, 5, 1000])) (
    .seq (
     .seq (
      .reg none [⟨(some 6), none, .mv (.t 5)⟩,
        ⟨(some 7), none, .mv (.t 0)⟩,
        ⟨(some 8), none, .len (.t 7)⟩,
        ⟨(some 9), none, .bin .lss (.t 6) (.t 8)⟩]) (
     .cond (.t 9) (
      .skip) (
      .exit 0))) (
    .seq (
     .block 1 (
      .seq (
       .reg none [⟨(some 12), none, .mv (.t 0)⟩,
         ⟨(some 13), none, .mv (.t 5)⟩,
         ⟨(some 14), none, .mv (.t 1)⟩,
         ⟨(some 15), none, .iad 2 (.t 12) (.t 13)⟩,
         ⟨(some 16), none, .fad 0 (.t 15)⟩,
         ⟨none, none, .st 1 false (.t 16) (.t 14)⟩]) (
      .seq (
       .reg none [⟨(some 17), none, .mv (.t 1)⟩,
         ⟨(some 18), none, .bin .add (.t 17) (.c (.int .i64 (1)))⟩,
         ⟨(some 1), none, .asn (.t 18)⟩]) (
      .seq (
       .reg none [⟨(some 19), none, .mv (.t 0)⟩,
         ⟨(some 20), none, .mv (.t 5)⟩,
         ⟨(some 21), none, .mv (.t 1)⟩,
         ⟨(some 22), none, .iad 2 (.t 19) (.t 20)⟩,
         ⟨(some 23), none, .fad 1 (.t 22)⟩,
         ⟨none, none, .st 1 false (.t 23) (.t 21)⟩]) (
      .reg none [⟨(some 24), none, .mv (.t 1)⟩,
        ⟨(some 25), none, .bin .add (.t 24) (.c (.int .i64 (1)))⟩,
        ⟨(some 1), none, .asn (.t 25)⟩]))))) (
    .reg none [⟨(some 10), none, .mv (.t 5)⟩,
      ⟨(some 11), none, .bin .add (.t 10) (.c (.int .i64 (1)))⟩,
      ⟨(some 5), none, .asn (.t 11)⟩])))))) (
 .seq (
  .reg none [⟨(some 26), none, .mv (.t 1)⟩,
    ⟨(some 4), none, .asn (.t 26)⟩]) (
 .ret)))
def r_laws_markSlotS : Nat × List RV := (27, [.t 4])

theorem c_laws_markSlotS : cmpS PT PF PB (Try.prog.funcs[98]?) = some (r_laws_markSlotS.1, r_laws_markSlotS.2, stripK k_laws_markSlotS) := by kernel_rfl

theorem h_markSlotS (t : Nat) (xs : List TSlot) (k : Int) (hk : 0 ≤ k) (hk2 : k + mSlot.nL xs < 2 ^ 50) (hk3 : wL wSlot xs < 2 ^ 50) :
    CallsB Try.prog 98 [.one (.vw t 2 1000 [] 0 xs.length), aI k] ⟨t, 2, xs.map rSlot⟩ ⟨t, 2, (mSlot.mkL xs k).map rSlot⟩ (aI (k + mSlot.nL xs)) := by
  refine PrunB c_laws_markSlotS (by simp [r_laws_markSlotS]) (by simp) ?_
  unfold k_laws_markSlotS r_laws_markSlotS
  have hlen := wL_len wSlot xs
  simp
  refine awp_loop (fun n σ => ∃ i : Nat, i ≤ xs.length ∧ n = xs.length - i ∧ σ = ⟨[(0, .one (.vw t 2 1000 [] 0 xs.length)), (1, aI (mSlot.pos xs k i)), (5, aI i)], [(1000, ⟨t, 2, (mSlot.upto xs k i).map rSlot⟩)]⟩) (xs.length) ⟨0, by simp [Mk.upto_zero, Mk.pos_zero]⟩ ?_
  rintro n σ ⟨i, hi, rfl, rfl⟩
  have hp1 : mSlot.pos xs k i ≤ k + mSlot.nL xs := Mk.pos_le hi
  have hp2 : k ≤ mSlot.pos xs k i := Mk.pos_ge
  by_cases h : i < xs.length
  · have hw := wL_get wSlot xs i h
    have hpst : mSlot.pos xs k (i + 1) = mSlot.pos xs k i + mSlot.n xs[i] := Mk.pos_step h
    have hle : mSlot.pos xs k (i + 1) ≤ k + mSlot.nL xs := Mk.pos_le h
    have hst := Mk.upto_set (M := mSlot) (k := k) h
    have hga := Mk.upto_at (M := mSlot) (k := k) h
    have hll := Mk.upto_len (M := mSlot) (xs := xs) (k := k) (i := i)
    generalize mSlot.upto xs k i = us at *
    generalize hκ : mSlot.pos xs k i = p0 at *
    rcases ha : xs[i] with ⟨bsym, bup⟩
    simp only [ha, mSlot_n, mSlot_wr] at hpst hga hst
    simp only [ha, wSlot] at hw
    obtain ⟨p1, hq1⟩ : ∃ p : Int, p = p0 + 1 := ⟨_, rfl⟩
    have ww0 : IntKind.i64.wrap (p0 + 1) = p1 := by rw [wrapI (by omega) (by omega), hq1]
    have nn0 : ¬ p1 < 0 := by omega
    obtain ⟨p2, hq2⟩ : ∃ p : Int, p = p1 + 1 := ⟨_, rfl⟩
    have ww1 : IntKind.i64.wrap (p1 + 1) = p2 := by rw [wrapI (by omega) (by omega), hq2]
    have nn1 : ¬ p2 < 0 := by omega
    simp only [← hq1, ← hq2] at hga hst
    simp [h, hga, hll, rSlot, ww0, nn0, ww1, nn1]
    refine ⟨xs.length - (i + 1), by omega, i + 1, by omega, rfl, ?_⟩
    rw [wrapI (by omega) (by omega)]
    rw [← hst]
    simp [rSlot]
    omega
  · have : i = xs.length := by omega
    subst this
    simp [Mk.upto_all, Mk.pos_all]
end Go.Am
-- Job_mk
namespace Go.Am
open Go.Proofs
set_option maxHeartbeats 4000000
set_option maxRecDepth 100000
attribute [-simp] rOutcome_len sOutcome_len shr_rOutcome shr_sOutcome shrs_rOutcome shrs_sOutcome noSh_rOutcome mOutcome_wr mOutcome_n rTenant_len sTenant_len shr_rTenant shr_sTenant shrs_rTenant shrs_sTenant noSh_rTenant mTenant_wr mTenant_n map_rs_Slot map_rs_Err map_rs_Outcome uTenant_wr uTenant_n rConf_len sConf_len shr_rConf shr_sConf shrs_rConf shrs_sConf noSh_rConf mConf_wr mConf_n rLine_len sLine_len shr_rLine shr_sLine shrs_rLine shrs_sLine noSh_rLine mLine_wr mLine_n rStore_len sStore_len shr_rStore shr_sStore shrs_rStore shrs_sStore noSh_rStore mStore_wr mStore_n uStore_wr uStore_n noSh_sOutcome noSh_sSlot noSh_sErr noSh_tenant
-- 50 loop.example/g00485/laws.markJobS
def k_laws_markJobS : K :=
 .seq (
  .reg none [⟨(some 4), none, .asn (.c (.int .i64 (0)))⟩]) (
 .seq (
  .seq (
   .reg none [⟨(some 5), none, .asn (.c (.int .i64 (0)))⟩]) (
  .block 0 (
   .loop (some ([0, 1, 5], [0, 1, 5, 1000])) (
    .seq (
     .seq (
      .reg none [⟨(some 6), none, .mv (.t 5)⟩,
        ⟨(some 7), none, .mv (.t 0)⟩,
        ⟨(some 8), none, .len (.t 7)⟩,
        ⟨(some 9), none, .bin .lss (.t 6) (.t 8)⟩]) (
     .cond (.t 9) (
      .skip) (
      .exit 0))) (
    .seq (
     .block 1 (
      .seq (
       .reg none [⟨(some 12), none, .mv (.t 0)⟩,
         ⟨(some 13), none, .mv (.t 5)⟩,
         ⟨(some 14), none, .mv (.t 1)⟩,
         ⟨(some 15), none, .iad 10 (.t 12) (.t 13)⟩,
         ⟨(some 16), none, .fad 0 (.t 15)⟩,
         ⟨none, none, .st 1 false (.t 16) (.t 14)⟩]) (
      .seq (
       .reg none [⟨(some 17), none, .mv (.t 1)⟩,
         ⟨(some 18), none, .bin .add (.t 17) (.c (.int .i64 (1)))⟩,
         ⟨(some 1), none, .asn (.t 18)⟩]) (
      .seq (
       .reg none [⟨(some 19), none, .mv (.t 0)⟩,
         ⟨(some 20), none, .mv (.t 5)⟩,
         ⟨(some 21), none, .mv (.t 1)⟩,
         ⟨(some 22), none, .iad 10 (.t 19) (.t 20)⟩,
         ⟨(some 23), none, .fad 1 (.t 22)⟩,
         ⟨none, none, .st 1 false (.t 23) (.t 21)⟩]) (
      .seq (
       .reg none [⟨(some 24), none, .mv (.t 1)⟩,
         ⟨(some 25), none, .bin .add (.t 24) (.c (.int .i64 (1)))⟩,
         ⟨(some 1), none, .asn (.t 25)⟩]) (
      .seq (
       .reg none [⟨(some 26), none, .mv (.t 0)⟩,
         ⟨(some 27), none, .mv (.t 5)⟩,
         ⟨(some 28), none, .iad 10 (.t 26) (.t 27)⟩,
         ⟨(some 29), none, .fad 2 (.t 28)⟩,
         ⟨(some 30), none, .ld 1 false (.t 29)⟩,
         ⟨(some 31), none, .mv (.t 1)⟩,
         ⟨(some 32), none, .callr 24 (.t 30) [(.t 30), (.t 31)]⟩,
         ⟨(some 1), none, .asn (.t 32)⟩]) (
      .seq (
       .reg none [⟨(some 33), none, .mv (.t 0)⟩,
         ⟨(some 34), none, .mv (.t 5)⟩,
         ⟨(some 35), none, .mv (.t 1)⟩,
         ⟨(some 36), none, .iad 10 (.t 33) (.t 34)⟩,
         ⟨(some 37), none, .fad 3 (.t 36)⟩,
         ⟨(some 38), none, .fad 0 (.t 37)⟩,
         ⟨none, none, .st 1 false (.t 38) (.t 35)⟩]) (
      .seq (
       .reg none [⟨(some 39), none, .mv (.t 1)⟩,
         ⟨(some 40), none, .bin .add (.t 39) (.c (.int .i64 (1)))⟩,
         ⟨(some 1), none, .asn (.t 40)⟩]) (
      .seq (
       .reg none [⟨(some 41), none, .mv (.t 0)⟩,
         ⟨(some 42), none, .mv (.t 5)⟩,
         ⟨(some 43), none, .mv (.t 1)⟩,
         ⟨(some 44), none, .iad 10 (.t 41) (.t 42)⟩,
         ⟨(some 45), none, .fad 3 (.t 44)⟩,
         ⟨(some 46), none, .fad 1 (.t 45)⟩,
         ⟨none, none, .st 1 false (.t 46) (.t 43)⟩]) (
      .seq (
       .reg none [⟨(some 47), none, .mv (.t 1)⟩,
         ⟨(some 48), none, .bin .add (.t 47) (.c (.int .i64 (1)))⟩,
         ⟨(some 1), none, .asn (.t 48)⟩]) (
      .seq (
       .reg none [⟨(some 49), none, .mv (.t 0)⟩,
         ⟨(some 50), none, .mv (.t 5)⟩,
         ⟨(some 51), none, .mv (.t 1)⟩,
         ⟨(some 52), none, .iad 10 (.t 49) (.t 50)⟩,
         ⟨(some 53), none, .fad 3 (.t 52)⟩,
         ⟨(some 54), none, .fad 2 (.t 53)⟩,
         ⟨none, none, .st 1 false (.t 54) (.t 51)⟩]) (
      .seq (
       .reg none [⟨(some 55), none, .mv (.t 1)⟩,
         ⟨(some 56), none, .bin .add (.t 55) (.c (.int .i64 (1)))⟩,
         ⟨(some 1), none, .asn (.t 56)⟩]) (
      .seq (
       .reg none [⟨(some 57), none, .mv (.t 0)⟩,
         ⟨(some 58), none, .mv (.t 5)⟩,
         ⟨(some 59), none, .mv (.t 1)⟩,
         ⟨(some 60), none, .iad 10 (.t 57) (.t 58)⟩,
         ⟨(some 61), none, .fad 3 (.t 60)⟩,
         ⟨(some 62), none, .fad 3 (.t 61)⟩,
         ⟨none, none, .st 1 false (.t 62) (.t 59)⟩]) (
      .seq (
       .reg none [⟨(some 63), none, .mv (.t 1)⟩,
         ⟨(some 64), none, .bin .add (.t 63) (.c (.int .i64 (1)))⟩,
         ⟨(some 1), none, .asn (.t 64)⟩]) (
      .seq (
       .reg none [⟨(some 65), none, .mv (.t 0)⟩,
         ⟨(some 66), none, .mv (.t 5)⟩,
         ⟨(some 67), none, .iad 10 (.t 65) (.t 66)⟩,
         ⟨(some 68), none, .fad 3 (.t 67)⟩,
         ⟨(some 69), none, .fad 4 (.t 68)⟩,
         ⟨(some 70), none, .ld 1 false (.t 69)⟩,
         ⟨(some 71), none, .mv (.t 1)⟩,
         ⟨(some 72), none, .callr 98 (.t 70) [(.t 70), (.t 71)]⟩,
         ⟨(some 1), none, .asn (.t 72)⟩]) (
      .seq (
       .reg none [⟨(some 73), none, .mv (.t 0)⟩,
         ⟨(some 74), none, .mv (.t 5)⟩,
         ⟨(some 75), none, .iad 10 (.t 73) (.t 74)⟩,
         ⟨(some 76), none, .fad 3 (.t 75)⟩,
         ⟨(some 77), none, .fad 5 (.t 76)⟩,
         ⟨(some 78), none, .fad 0 (.t 77)⟩,
         ⟨(some 79), none, .ld 1 false (.t 78)⟩,
         ⟨(some 80), none, .mv (.t 1)⟩,
         ⟨(some 81), none, .callr 99 (.t 79) [(.t 79), (.t 80)]⟩,
         ⟨(some 1), none, .asn (.t 81)⟩]) (
      .reg none [⟨(some 82), none, .mv (.t 0)⟩,
        ⟨(some 83), none, .mv (.t 5)⟩,
        ⟨(some 84), none, .iad 10 (.t 82) (.t 83)⟩,
        ⟨(some 85), none, .fad 3 (.t 84)⟩,
        ⟨(some 86), none, .fad 6 (.t 85)⟩,
        ⟨(some 87), none, .ld 1 false (.t 86)⟩,
        ⟨(some 88), none, .mv (.t 1)⟩,
        ⟨(some 89), none, .callr 100 (.t 87) [(.t 87), (.t 88)]⟩,
        ⟨(some 1), none, .asn (.t 89)⟩]))))))))))))))))) (
    .reg none [⟨(some 10), none, .mv (.t 5)⟩,
      ⟨(some 11), none, .bin .add (.t 10) (.c (.int .i64 (1)))⟩,
      ⟨(some 5), none, .asn (.t 11)⟩])))))) (
 .seq (
  .reg none [⟨(some 90), none, .mv (.t 1)⟩,
    ⟨(some 4), none, .asn (.t 90)⟩]) (
 .ret)))
def r_laws_markJobS : Nat × List RV := (91, [.t 4])

theorem c_laws_markJobS : cmpS PT PF PB (Try.prog.funcs[50]?) = some (r_laws_markJobS.1, r_laws_markJobS.2, stripK k_laws_markJobS) := by kernel_rfl

theorem h_markJobS (t : Nat) (xs : List TJob) (k : Int) (hk : 0 ≤ k) (hk2 : k + mJob.nL xs < 2 ^ 50) (hk3 : wL wJob xs < 2 ^ 50) :
    CallsB Try.prog 50 [.one (.vw t 10 1000 [] 0 xs.length), aI k] ⟨t, 10, xs.map rJob⟩ ⟨t, 10, (mJob.mkL xs k).map rJob⟩ (aI (k + mJob.nL xs)) := by
  refine PrunB c_laws_markJobS (by simp [r_laws_markJobS]) (by simp) ?_
  unfold k_laws_markJobS r_laws_markJobS
  have hlen := wL_len wJob xs
  simp
  refine awp_loop (fun n σ => ∃ i : Nat, i ≤ xs.length ∧ n = xs.length - i ∧ σ = ⟨[(0, .one (.vw t 10 1000 [] 0 xs.length)), (1, aI (mJob.pos xs k i)), (5, aI i)], [(1000, ⟨t, 10, (mJob.upto xs k i).map rJob⟩)]⟩) (xs.length) ⟨0, by simp [Mk.upto_zero, Mk.pos_zero]⟩ ?_
  rintro n σ ⟨i, hi, rfl, rfl⟩
  have hp1 : mJob.pos xs k i ≤ k + mJob.nL xs := Mk.pos_le hi
  have hp2 : k ≤ mJob.pos xs k i := Mk.pos_ge
  by_cases h : i < xs.length
  · have hw := wL_get wJob xs i h
    have hpst : mJob.pos xs k (i + 1) = mJob.pos xs k i + mJob.n xs[i] := Mk.pos_step h
    have hle : mJob.pos xs k (i + 1) ≤ k + mJob.nL xs := Mk.pos_le h
    have hst := Mk.upto_set (M := mJob) (k := k) h
    have hga := Mk.upto_at (M := mJob) (k := k) h
    have hll := Mk.upto_len (M := mJob) (xs := xs) (k := k) (i := i)
    generalize mJob.upto xs k i = us at *
    generalize hκ : mJob.pos xs k i = p0 at *
    rcases ha : xs[i] with ⟨bticket, bgram, binput, ⟨bruncode, brunpos, brunlook, bruncost, brunslots, ⟨bruntreenodes⟩, brunerrs⟩⟩
    simp only [ha, mJob_n, mJob_wr] at hpst hga hst
    simp only [ha, wJob, wRun, wTree] at hw
    obtain ⟨p1, hq1⟩ : ∃ p : Int, p = p0 + 1 := ⟨_, rfl⟩
    have ww0 : IntKind.i64.wrap (p0 + 1) = p1 := by rw [wrapI (by omega) (by omega), hq1]
    have nn0 : ¬ p1 < 0 := by omega
    obtain ⟨p2, hq2⟩ : ∃ p : Int, p = p1 + 1 := ⟨_, rfl⟩
    have ww1 : IntKind.i64.wrap (p1 + 1) = p2 := by rw [wrapI (by omega) (by omega), hq2]
    have nn1 : ¬ p2 < 0 := by omega
    obtain ⟨p3, hq3⟩ : ∃ p : Int, p = p2 + (mI.nL binput : Int) := ⟨_, rfl⟩
    have nn2 : ¬ p3 < 0 := by omega
    obtain ⟨p4, hq4⟩ : ∃ p : Int, p = p3 + 1 := ⟨_, rfl⟩
    have ww3 : IntKind.i64.wrap (p3 + 1) = p4 := by rw [wrapI (by omega) (by omega), hq4]
    have nn3 : ¬ p4 < 0 := by omega
    obtain ⟨p5, hq5⟩ : ∃ p : Int, p = p4 + 1 := ⟨_, rfl⟩
    have ww4 : IntKind.i64.wrap (p4 + 1) = p5 := by rw [wrapI (by omega) (by omega), hq5]
    have nn4 : ¬ p5 < 0 := by omega
    obtain ⟨p6, hq6⟩ : ∃ p : Int, p = p5 + 1 := ⟨_, rfl⟩
    have ww5 : IntKind.i64.wrap (p5 + 1) = p6 := by rw [wrapI (by omega) (by omega), hq6]
    have nn5 : ¬ p6 < 0 := by omega
    obtain ⟨p7, hq7⟩ : ∃ p : Int, p = p6 + 1 := ⟨_, rfl⟩
    have ww6 : IntKind.i64.wrap (p6 + 1) = p7 := by rw [wrapI (by omega) (by omega), hq7]
    have nn6 : ¬ p7 < 0 := by omega
    obtain ⟨p8, hq8⟩ : ∃ p : Int, p = p7 + (mSlot.nL brunslots : Int) := ⟨_, rfl⟩
    have nn7 : ¬ p8 < 0 := by omega
    obtain ⟨p9, hq9⟩ : ∃ p : Int, p = p8 + (mNode.nL bruntreenodes : Int) := ⟨_, rfl⟩
    have nn8 : ¬ p9 < 0 := by omega
    obtain ⟨p10, hq10⟩ : ∃ p : Int, p = p9 + (mErr.nL brunerrs : Int) := ⟨_, rfl⟩
    have nn9 : ¬ p10 < 0 := by omega
    simp only [← hq1, ← hq2, ← hq3, ← hq4, ← hq5, ← hq6, ← hq7, ← hq8, ← hq9, ← hq10] at hga hst
    simp [h, hga, hll, rJob, ww0, nn0, ww1, nn1, nn2, ww3, nn3, ww4, nn4, ww5, nn5, ww6, nn6, nn7, nn8, nn9]
    have hc2 := h_markIntS 3 binput p2 (by omega) (by omega)
    rw [← hq3] at hc2
    refine callRG_F hc2 rfl rfl (by simp) (by simp) ?_
    simp [h, hga, hll, rJob, ww0, nn0, ww1, nn1, nn2, ww3, nn3, ww4, nn4, ww5, nn5, ww6, nn6, nn7, nn8, nn9]
    have hc7 := h_markSlotS 183 brunslots p7 (by omega) (by omega) (by omega)
    rw [← hq8] at hc7
    refine callRG_F hc7 rfl rfl (by simp) (by simp) ?_
    simp [h, hga, hll, rJob, ww0, nn0, ww1, nn1, nn2, ww3, nn3, ww4, nn4, ww5, nn5, ww6, nn6, nn7, nn8, nn9]
    have hc8 := h_markNodeS 185 bruntreenodes p8 (by omega) (by omega) (by omega)
    rw [← hq9] at hc8
    refine callRG_F hc8 rfl rfl (by simp) (by simp) ?_
    simp [h, hga, hll, rJob, ww0, nn0, ww1, nn1, nn2, ww3, nn3, ww4, nn4, ww5, nn5, ww6, nn6, nn7, nn8, nn9]
    have hc9 := h_markErrS 187 brunerrs p9 (by omega) (by omega) (by omega)
    rw [← hq10] at hc9
    refine callRG_F hc9 rfl rfl (by simp) (by simp) ?_
    simp [h, hga, hll, rJob, ww0, nn0, ww1, nn1, nn2, ww3, nn3, ww4, nn4, ww5, nn5, ww6, nn6, nn7, nn8, nn9]
    refine ⟨xs.length - (i + 1), by omega, i + 1, by omega, rfl, ?_⟩
    rw [wrapI (by omega) (by omega)]
    rw [← hst]
    simp [rJob]
    omega
  · have : i = xs.length := by omega
    subst this
    simp [Mk.upto_all, Mk.pos_all]
end Go.Am
-- mtext
namespace Go.Am
open Go.Proofs
set_option maxHeartbeats 4000000
set_option maxRecDepth 100000
attribute [-simp] rErr_len sErr_len shr_rErr shr_sErr shrs_rErr shrs_sErr noSh_rErr mErr_wr mErr_n rSlot_len sSlot_len shr_rSlot shr_sSlot shrs_rSlot shrs_sSlot noSh_rSlot mSlot_wr mSlot_n rNode_len sNode_len shr_rNode shr_sNode shrs_rNode shrs_sNode noSh_rNode mNode_wr mNode_n rTree_len sTree_len shr_rTree shr_sTree shrs_rTree shrs_sTree noSh_rTree mTree_wr mTree_n rRun_len sRun_len shr_rRun shr_sRun shrs_rRun shrs_sRun noSh_rRun mRun_wr mRun_n rJob_len sJob_len shr_rJob shr_sJob shrs_rJob shrs_sJob noSh_rJob mJob_wr mJob_n rOutcome_len sOutcome_len shr_rOutcome shr_sOutcome shrs_rOutcome shrs_sOutcome noSh_rOutcome mOutcome_wr mOutcome_n rTenant_len sTenant_len shr_rTenant shr_sTenant shrs_rTenant shrs_sTenant noSh_rTenant mTenant_wr mTenant_n map_rs_Slot map_rs_Err map_rs_Outcome uTenant_wr uTenant_n rConf_len sConf_len shr_rConf shr_sConf shrs_rConf shrs_sConf noSh_rConf mConf_wr mConf_n rLine_len sLine_len shr_rLine shr_sLine shrs_rLine shrs_sLine noSh_rLine mLine_wr mLine_n rStore_len sStore_len shr_rStore shr_sStore shrs_rStore shrs_sStore noSh_rStore mStore_wr mStore_n uStore_wr uStore_n noSh_sOutcome noSh_sSlot noSh_sErr noSh_tenant
theorem digsF_stable : ∀ (f g n : Nat), n ≤ f → n ≤ g → digsF f n = digsF g n
  | 0, 0, _, _, _ => rfl
  | 0, g + 1, n, h, _ => by
    have : n = 0 := by omega
    subst this; simp [digsF]
  | f + 1, 0, n, _, h => by
    have : n = 0 := by omega
    subst this; simp [digsF]
  | f + 1, g + 1, n, hf, hg => by
    simp only [digsF]
    split
    · rfl
    · rw [digsF_stable f g (n / 10) (by omega) (by omega)]
theorem digs_zero : digs 0 = [] := rfl
theorem digs_step {n : Nat} (h : 0 < n) : digs n = digs (n / 10) ++ [UInt8.ofNat (48 + n % 10)] := by
  obtain ⟨m, rfl⟩ : ∃ m, n = m + 1 := ⟨n - 1, by omega⟩
  unfold digs
  rw [digsF, if_neg (by omega), digsF_stable m ((m + 1) / 10) ((m + 1) / 10) (by omega) (Nat.le_refl _)]
-- 72 loop.example/g00485/laws.markText
def k_laws_markText : K :=
 .seq (
  .reg none [⟨(some 2), none, .asn (.c (.str ⟨#[]⟩))⟩]) (
 .seq (
  .seq (
   .reg none [⟨(some 4), none, .mv (.t 0)⟩,
     ⟨(some 5), none, .bin .leq (.t 4) (.c (.int .i64 (0)))⟩]) (
  .cond (.t 5) (
   .seq (
    .reg none [⟨(some 2), none, .asn (.c (.str ⟨#[109, 48]⟩))⟩]) (
   .ret)) (
   .skip))) (
 .seq (
  .reg none [⟨(some 3), none, .asn (.c (.str ⟨#[]⟩))⟩]) (
 .seq (
  .block 0 (
   .loop (some ([0, 3], [0, 3, 1000])) (
    .seq (
     .seq (
      .reg none [⟨(some 6), none, .mv (.t 0)⟩,
        ⟨(some 7), none, .bin .gtr (.t 6) (.c (.int .i64 (0)))⟩]) (
     .cond (.t 7) (
      .skip) (
      .exit 0))) (
    .block 1 (
     .seq (
      .reg none [⟨(some 8), none, .mv (.t 0)⟩,
        ⟨(some 9), none, .bin .rem (.t 8) (.c (.int .i64 (10)))⟩,
        ⟨(some 10), none, .bin .add (.c (.int .i64 (48))) (.t 9)⟩,
        ⟨(some 11), none, .conv .u8 (.t 10)⟩,
        ⟨(some 12), none, .bls 5 1 false [(.t 11)]⟩,
        ⟨(some 13), none, .b2s (.t 12)⟩,
        ⟨(some 14), none, .mv (.t 3)⟩,
        ⟨(some 15), none, .bin .add (.t 13) (.t 14)⟩,
        ⟨(some 3), none, .asn (.t 15)⟩]) (
     .reg none [⟨(some 16), none, .mv (.t 0)⟩,
       ⟨(some 17), none, .bin .quo (.t 16) (.c (.int .i64 (10)))⟩,
       ⟨(some 0), none, .asn (.t 17)⟩])))))) (
 .seq (
  .reg none [⟨(some 18), none, .mv (.t 3)⟩,
    ⟨(some 19), none, .bin .add (.c (.str ⟨#[109]⟩)) (.t 18)⟩,
    ⟨(some 2), none, .asn (.t 19)⟩]) (
 .ret)))))
def r_laws_markText : Nat × List RV := (20, [.t 2])

theorem c_laws_markText : cmpS PT PF PA (Try.prog.funcs[72]?) = some (r_laws_markText.1, r_laws_markText.2, stripK k_laws_markText) := by kernel_rfl

set_option maxRecDepth 100000 in
theorem h_markText (k : Int) (hk : 0 ≤ k) (hk2 : k < 2 ^ 50) : CallsF Try.prog 72 [aI k] (aS (mtx k)) := by
  refine Prun c_laws_markText (by simp [r_laws_markText]) (by simp) ?_
  unfold k_laws_markText r_laws_markText
  obtain ⟨n, rfl⟩ : ∃ n : Nat, k = n := ⟨k.toNat, by omega⟩
  by_cases h0 : n = 0
  · subst h0
    simp [mtx, aS]
  · have hp : ¬ (n : Int) ≤ 0 := by omega
    simp [h0]
    refine awp_loop (fun m σ => ∃ (d : Nat) (out : List UInt8), m = d ∧ digs n = digs d ++ out ∧ d * 10 ^ out.length ≤ n ∧ out.length ≤ 16 ∧ σ = ⟨[(0, aI d), (3, aS ⟨out.toArray⟩)], []⟩) n ⟨n, [], by simp [aS]⟩ ?_
    rintro m σ ⟨d, out, rfl, hd, hle, hl, rfl⟩
    by_cases h : m = 0
    · subst h
      have hs : (⟨#[109]⟩ : ByteArray).size + (⟨out.toArray⟩ : ByteArray).size ≤ 4294967296 := by show 1 + out.toArray.size ≤ _; simp; omega
      have hmt : mtx n = (⟨#[109]⟩ : ByteArray) ++ ⟨out.toArray⟩ := by
        have h1 : digs n = out := by simpa [digs_zero] using hd
        simp only [mtx]
        rw [if_neg hp, Int.toNat_natCast, h1]
        apply ByteArray.ext
        simp
      simp [aS, hs, hmt]
    · have hm : 0 < m := by omega
      have h16 : out.length ≤ 15 := by
        have h1 : 10 ^ out.length ≤ n := Nat.le_trans (Nat.le_mul_of_pos_left _ hm) hle
        by_cases hh : out.length ≤ 15
        · exact hh
        · have h2 : 10000000000000000 ≤ 10 ^ out.length := by
            have := Nat.pow_le_pow_right (n := 10) (by omega) (show 16 ≤ out.length by omega)
            exact Nat.le_trans (by decide) this
          have hk3 : n < 1125899906842624 := by omega
          omega
      have hst := digs_step hm
      have hmod : (m : Int).tmod 10 = ((m % 10 : Nat) : Int) := rfl
      have hdiv : (m : Int).tdiv 10 = ((m / 10 : Nat) : Int) := rfl
      have hmn : m ≤ n := Nat.le_trans (Nat.le_mul_of_pos_right _ (Nat.pow_pos (by omega))) hle
      have wq : IntKind.i64.wrap ((m : Int).tdiv 10) = ((m / 10 : Nat) : Int) := by rw [hdiv, wrapI (by omega) (by omega)]
      have wr : IntKind.i64.wrap (48 + (m : Int).tmod 10) = ((48 + m % 10 : Nat) : Int) := by rw [hmod, wrapI (by omega) (by omega)]; omega
      have wb : IntKind.u8.wrap (((48 + m % 10 : Nat) : Int)) = ((48 + m % 10 : Nat) : Int) := by
        have h1 : 48 + m % 10 < 256 := by omega
        simp [IntKind.wrap, IntKind.bits, IntKind.signed]
        omega
      have hb : UInt8.ofNat (IntKind.u8.wrap (IntKind.i64.wrap (48 + (m : Int).tmod 10))).toNat = UInt8.ofNat (48 + m % 10) := by rw [wr, wb, Int.toNat_natCast]
      have hs : (⟨#[UInt8.ofNat (48 + m % 10)]⟩ : ByteArray).size + (⟨out.toArray⟩ : ByteArray).size ≤ 4294967296 := by show 1 + out.toArray.size ≤ _; simp; omega
      have hap : (⟨#[UInt8.ofNat (48 + m % 10)]⟩ : ByteArray) ++ ⟨out.toArray⟩ = ⟨(UInt8.ofNat (48 + m % 10) :: out).toArray⟩ := by
        apply ByteArray.ext
        simp
      have hp10 : m / 10 * 10 ^ (out.length + 1) ≤ n := by
        rw [Nat.pow_succ, Nat.mul_comm (10 ^ out.length) 10, ← Nat.mul_assoc]
        exact Nat.le_trans (Nat.mul_le_mul_right _ (by omega)) hle
      generalize UInt8.ofNat (48 + m % 10) = by8 at *
      simp [aS, hm, hb, hs, hap, wq]
      refine ⟨m / 10, by omega, by8 :: out, ?_, hp10, by simp; omega, wrapI (by omega) (by omega), rfl⟩
      rw [hd, hst, List.append_assoc]
      rfl
end Go.Am
-- Outcome_mk
namespace Go.Am
open Go.Proofs
set_option maxHeartbeats 4000000
set_option maxRecDepth 100000
attribute [-simp] rErr_len sErr_len shr_rErr shr_sErr shrs_rErr shrs_sErr noSh_rErr mErr_wr mErr_n rSlot_len sSlot_len shr_rSlot shr_sSlot shrs_rSlot shrs_sSlot noSh_rSlot mSlot_wr mSlot_n rNode_len sNode_len shr_rNode shr_sNode shrs_rNode shrs_sNode noSh_rNode mNode_wr mNode_n rTree_len sTree_len shr_rTree shr_sTree shrs_rTree shrs_sTree noSh_rTree mTree_wr mTree_n rRun_len sRun_len shr_rRun shr_sRun shrs_rRun shrs_sRun noSh_rRun mRun_wr mRun_n rJob_len sJob_len shr_rJob shr_sJob shrs_rJob shrs_sJob noSh_rJob mJob_wr mJob_n rTenant_len sTenant_len shr_rTenant shr_sTenant shrs_rTenant shrs_sTenant noSh_rTenant mTenant_wr mTenant_n map_rs_Slot map_rs_Err map_rs_Outcome uTenant_wr uTenant_n rConf_len sConf_len shr_rConf shr_sConf shrs_rConf shrs_sConf noSh_rConf mConf_wr mConf_n rLine_len sLine_len shr_rLine shr_sLine shrs_rLine shrs_sLine noSh_rLine mLine_wr mLine_n rStore_len sStore_len shr_rStore shr_sStore shrs_rStore shrs_sStore noSh_rStore mStore_wr mStore_n uStore_wr uStore_n noSh_sOutcome noSh_sSlot noSh_sErr noSh_tenant
-- 32 loop.example/g00485/laws.markOutcomeS
def k_laws_markOutcomeS : K :=
 .seq (
  .reg none [⟨(some 4), none, .asn (.c (.int .i64 (0)))⟩]) (
 .seq (
  .seq (
   .reg none [⟨(some 5), none, .asn (.c (.int .i64 (0)))⟩]) (
  .block 0 (
   .loop (some ([0, 1, 5], [0, 1, 5, 1000])) (
    .seq (
     .seq (
      .reg none [⟨(some 6), none, .mv (.t 5)⟩,
        ⟨(some 7), none, .mv (.t 0)⟩,
        ⟨(some 8), none, .len (.t 7)⟩,
        ⟨(some 9), none, .bin .lss (.t 6) (.t 8)⟩]) (
     .cond (.t 9) (
      .skip) (
      .exit 0))) (
    .seq (
     .block 1 (
      .seq (
       .reg none [⟨(some 12), none, .mv (.t 0)⟩,
         ⟨(some 13), none, .mv (.t 5)⟩,
         ⟨(some 14), none, .mv (.t 1)⟩,
         ⟨(some 15), none, .iad 3 (.t 12) (.t 13)⟩,
         ⟨(some 16), none, .fad 0 (.t 15)⟩,
         ⟨none, none, .st 1 false (.t 16) (.t 14)⟩]) (
      .seq (
       .reg none [⟨(some 17), none, .mv (.t 1)⟩,
         ⟨(some 18), none, .bin .add (.t 17) (.c (.int .i64 (1)))⟩,
         ⟨(some 1), none, .asn (.t 18)⟩]) (
      .seq (
       .reg none [⟨(some 19), none, .mv (.t 0)⟩,
         ⟨(some 20), none, .mv (.t 5)⟩,
         ⟨(some 21), none, .mv (.t 1)⟩,
         ⟨(some 22), none, .iad 3 (.t 19) (.t 20)⟩,
         ⟨(some 23), none, .fad 1 (.t 22)⟩,
         ⟨none, none, .st 1 false (.t 23) (.t 21)⟩]) (
      .seq (
       .reg none [⟨(some 24), none, .mv (.t 1)⟩,
         ⟨(some 25), none, .bin .add (.t 24) (.c (.int .i64 (1)))⟩,
         ⟨(some 1), none, .asn (.t 25)⟩]) (
      .seq (
       .reg none [⟨(some 26), none, .mv (.t 0)⟩,
         ⟨(some 27), none, .mv (.t 5)⟩,
         ⟨(some 28), none, .mv (.t 1)⟩,
         ⟨(some 29), none, .call 72 [(.t 28)]⟩,
         ⟨(some 30), none, .iad 3 (.t 26) (.t 27)⟩,
         ⟨(some 31), none, .fad 2 (.t 30)⟩,
         ⟨none, none, .st 1 false (.t 31) (.t 29)⟩]) (
      .reg none [⟨(some 32), none, .mv (.t 1)⟩,
        ⟨(some 33), none, .bin .add (.t 32) (.c (.int .i64 (1)))⟩,
        ⟨(some 1), none, .asn (.t 33)⟩]))))))) (
    .reg none [⟨(some 10), none, .mv (.t 5)⟩,
      ⟨(some 11), none, .bin .add (.t 10) (.c (.int .i64 (1)))⟩,
      ⟨(some 5), none, .asn (.t 11)⟩])))))) (
 .seq (
  .reg none [⟨(some 34), none, .mv (.t 1)⟩,
    ⟨(some 4), none, .asn (.t 34)⟩]) (
 .ret)))
def r_laws_markOutcomeS : Nat × List RV := (35, [.t 4])

theorem c_laws_markOutcomeS : cmpS PT PF PB (Try.prog.funcs[32]?) = some (r_laws_markOutcomeS.1, r_laws_markOutcomeS.2, stripK k_laws_markOutcomeS) := by kernel_rfl

theorem h_markOutcomeS (t : Nat) (xs : List TOutcome) (k : Int) (hk : 0 ≤ k) (hk2 : k + mOutcome.nL xs < 2 ^ 50) (hk3 : wL wOutcome xs < 2 ^ 50) :
    CallsB Try.prog 32 [.one (.vw t 3 1000 [] 0 xs.length), aI k] ⟨t, 3, xs.map rOutcome⟩ ⟨t, 3, (mOutcome.mkL xs k).map rOutcome⟩ (aI (k + mOutcome.nL xs)) := by
  refine PrunB c_laws_markOutcomeS (by simp [r_laws_markOutcomeS]) (by simp) ?_
  unfold k_laws_markOutcomeS r_laws_markOutcomeS
  have hlen := wL_len wOutcome xs
  simp
  refine awp_loop (fun n σ => ∃ i : Nat, i ≤ xs.length ∧ n = xs.length - i ∧ σ = ⟨[(0, .one (.vw t 3 1000 [] 0 xs.length)), (1, aI (mOutcome.pos xs k i)), (5, aI i)], [(1000, ⟨t, 3, (mOutcome.upto xs k i).map rOutcome⟩)]⟩) (xs.length) ⟨0, by simp [Mk.upto_zero, Mk.pos_zero]⟩ ?_
  rintro n σ ⟨i, hi, rfl, rfl⟩
  have hp1 : mOutcome.pos xs k i ≤ k + mOutcome.nL xs := Mk.pos_le hi
  have hp2 : k ≤ mOutcome.pos xs k i := Mk.pos_ge
  by_cases h : i < xs.length
  · have hw := wL_get wOutcome xs i h
    have hpst : mOutcome.pos xs k (i + 1) = mOutcome.pos xs k i + mOutcome.n xs[i] := Mk.pos_step h
    have hle : mOutcome.pos xs k (i + 1) ≤ k + mOutcome.nL xs := Mk.pos_le h
    have hst := Mk.upto_set (M := mOutcome) (k := k) h
    have hga := Mk.upto_at (M := mOutcome) (k := k) h
    have hll := Mk.upto_len (M := mOutcome) (xs := xs) (k := k) (i := i)
    generalize mOutcome.upto xs k i = us at *
    generalize hκ : mOutcome.pos xs k i = p0 at *
    rcases ha : xs[i] with ⟨bticket, bcode, btext⟩
    simp only [ha, mOutcome_n, mOutcome_wr] at hpst hga hst
    simp only [ha, wOutcome] at hw
    obtain ⟨p1, hq1⟩ : ∃ p : Int, p = p0 + 1 := ⟨_, rfl⟩
    have ww0 : IntKind.i64.wrap (p0 + 1) = p1 := by rw [wrapI (by omega) (by omega), hq1]
    have nn0 : ¬ p1 < 0 := by omega
    obtain ⟨p2, hq2⟩ : ∃ p : Int, p = p1 + 1 := ⟨_, rfl⟩
    have ww1 : IntKind.i64.wrap (p1 + 1) = p2 := by rw [wrapI (by omega) (by omega), hq2]
    have nn1 : ¬ p2 < 0 := by omega
    obtain ⟨p3, hq3⟩ : ∃ p : Int, p = p2 + 1 := ⟨_, rfl⟩
    have ww2 : IntKind.i64.wrap (p2 + 1) = p3 := by rw [wrapI (by omega) (by omega), hq3]
    have nn2 : ¬ p3 < 0 := by omega
    simp only [← hq1, ← hq2, ← hq3] at hga hst
    simp [h, hga, hll, rOutcome, ww0, nn0, ww1, nn1, ww2, nn2]
    first | refine callG_F (h_markText p2 (by omega) (by omega)) (by simp) ?_ | refine ⟨_, by simp, h_markText p2 (by omega) (by omega), ?_⟩
    simp [h, hga, hll, rOutcome, ww0, nn0, ww1, nn1, ww2, nn2]
    refine ⟨xs.length - (i + 1), by omega, i + 1, by omega, rfl, ?_⟩
    rw [wrapI (by omega) (by omega)]
    rw [← hst]
    simp [rOutcome]
    omega
  · have : i = xs.length := by omega
    subst this
    simp [Mk.upto_all, Mk.pos_all]
end Go.Am
-- Tenant_mk1
namespace Go.Am
open Go.Proofs
set_option maxHeartbeats 4000000
set_option maxRecDepth 100000
attribute [-simp] map_rs_Slot map_rs_Err map_rs_Outcome rConf_len sConf_len shr_rConf shr_sConf shrs_rConf shrs_sConf noSh_rConf mConf_wr mConf_n rLine_len sLine_len shr_rLine shr_sLine shrs_rLine shrs_sLine noSh_rLine mLine_wr mLine_n rStore_len sStore_len shr_rStore shr_sStore shrs_rStore shrs_sStore noSh_rStore mStore_wr mStore_n uStore_wr uStore_n noSh_sOutcome noSh_sSlot noSh_sErr noSh_tenant
-- 13 loop.example/g00485/laws.markTenant
def k_laws_markTenant : K :=
 .seq (
  .reg none [⟨(some 2), none, .boxs 10 (.t 0)⟩,
    ⟨(some 4), none, .asn (.c (.int .i64 (0)))⟩]) (
 .seq (
  .reg none [⟨(some 5), none, .fad 8 (.t 2)⟩,
    ⟨(some 6), none, .ld 1 false (.t 5)⟩,
    ⟨(some 7), none, .mv (.t 1)⟩,
    ⟨(some 8), none, .callr 50 (.t 6) [(.t 6), (.t 7)]⟩,
    ⟨(some 1), none, .asn (.t 8)⟩]) (
 .seq (
  .reg none [⟨(some 9), none, .fad 9 (.t 2)⟩,
    ⟨(some 10), none, .ld 1 false (.t 9)⟩,
    ⟨(some 11), none, .mv (.t 1)⟩,
    ⟨(some 12), none, .callr 32 (.t 10) [(.t 10), (.t 11)]⟩,
    ⟨(some 1), none, .asn (.t 12)⟩]) (
 .seq (
  .reg none [⟨(some 13), none, .mv (.t 1)⟩,
    ⟨(some 4), none, .asn (.t 13)⟩]) (
 .ret))))
def r_laws_markTenant : Nat × List RV := (14, [.t 4])

theorem c_laws_markTenant : cmpS PT PF PB (Try.prog.funcs[13]?) = some (r_laws_markTenant.1, r_laws_markTenant.2, stripK k_laws_markTenant) := by kernel_rfl

theorem h_markTenant (a : TTenant) (k : Int) (hk : 0 ≤ k) (hk2 : k + uTenant.n a < 2 ^ 50) (hk3 : wTenant a < 2 ^ 50) :
    CallsA Try.prog 13 [.agg (vTenant a), aI k] [(1000, ⟨133, 10, a.queue.map rJob⟩), (1001, ⟨102, 3, a.out.map rOutcome⟩)] fun r H => H = [(1000, ⟨133, 10, (uTenant.wr a k).queue.map rJob⟩), (1001, ⟨102, 3, (uTenant.wr a k).out.map rOutcome⟩)] ∧ r = aI (k + uTenant.n a) := by
  refine PrunB c_laws_markTenant (by simp [r_laws_markTenant]) (by simp) ?_
  unfold k_laws_markTenant r_laws_markTenant
  simp only [uTenant_n, wTenant] at hk2 hk3
  obtain ⟨p0, hq0⟩ : ∃ p : Int, p = k + (mJob.nL a.queue : Int) := ⟨_, rfl⟩
  have nn0 : ¬ p0 < 0 := by omega
  obtain ⟨p1, hq1⟩ : ∃ p : Int, p = p0 + (mOutcome.nL a.out : Int) := ⟨_, rfl⟩
  have nn1 : ¬ p1 < 0 := by omega
  simp only [uTenant_wr, ← hq0, ← hq1]
  simp [vTenant, nn0, nn1]
  have hc0 := h_markJobS 133 a.queue k (by omega) (by omega) (by omega)
  simp only [← hq0] at hc0
  refine callRG_F hc0 rfl rfl (by simp) (by simp) ?_
  simp [nn0, nn1]
  have hc1 := h_markOutcomeS 102 a.out p0 (by omega) (by omega) (by omega)
  simp only [← hq1] at hc1
  refine callRG_F hc1 rfl rfl (by simp) (by simp) ?_
  simp [nn0, nn1]
  try omega
end Go.Am
-- inth
namespace Go.Am
open Go.Proofs
set_option maxHeartbeats 4000000
set_option maxRecDepth 100000
attribute [-simp] rErr_len sErr_len shr_rErr shr_sErr shrs_rErr shrs_sErr noSh_rErr mErr_wr mErr_n rSlot_len sSlot_len shr_rSlot shr_sSlot shrs_rSlot shrs_sSlot noSh_rSlot mSlot_wr mSlot_n rNode_len sNode_len shr_rNode shr_sNode shrs_rNode shrs_sNode noSh_rNode mNode_wr mNode_n rTree_len sTree_len shr_rTree shr_sTree shrs_rTree shrs_sTree noSh_rTree mTree_wr mTree_n rRun_len sRun_len shr_rRun shr_sRun shrs_rRun shrs_sRun noSh_rRun mRun_wr mRun_n rJob_len sJob_len shr_rJob shr_sJob shrs_rJob shrs_sJob noSh_rJob mJob_wr mJob_n rOutcome_len sOutcome_len shr_rOutcome shr_sOutcome shrs_rOutcome shrs_sOutcome noSh_rOutcome mOutcome_wr mOutcome_n rTenant_len sTenant_len shr_rTenant shr_sTenant shrs_rTenant shrs_sTenant noSh_rTenant mTenant_wr mTenant_n map_rs_Slot map_rs_Err map_rs_Outcome uTenant_wr uTenant_n rConf_len sConf_len shr_rConf shr_sConf shrs_rConf shrs_sConf noSh_rConf mConf_wr mConf_n rLine_len sLine_len shr_rLine shr_sLine shrs_rLine shrs_sLine noSh_rLine mLine_wr mLine_n rStore_len sStore_len shr_rStore shr_sStore shrs_rStore shrs_sStore noSh_rStore mStore_wr mStore_n uStore_wr uStore_n noSh_sOutcome noSh_sSlot noSh_sErr noSh_tenant
-- 63 loop.example/g00485/laws.heldIntS
def k_laws_heldIntS : K :=
 .seq (
  .reg none [⟨(some 4), none, .asn (.c (.int .i64 (0)))⟩]) (
 .seq (
  .seq (
   .reg none [⟨(some 5), none, .asn (.c (.int .i64 (0)))⟩]) (
  .block 0 (
   .loop (some ([0, 1, 5], [0, 1, 5, 1000])) (
    .seq (
     .seq (
      .reg none [⟨(some 6), none, .mv (.t 5)⟩,
        ⟨(some 7), none, .mv (.t 0)⟩,
        ⟨(some 8), none, .len (.t 7)⟩,
        ⟨(some 9), none, .bin .lss (.t 6) (.t 8)⟩]) (
     .cond (.t 9) (
      .skip) (
      .exit 0))) (
    .seq (
     .block 1 (
      .seq (
       .seq (
        .reg none [⟨(some 12), none, .mv (.t 0)⟩,
          ⟨(some 13), none, .mv (.t 5)⟩,
          ⟨(some 14), none, .iad 1 (.t 12) (.t 13)⟩,
          ⟨(some 15), none, .ld 1 false (.t 14)⟩,
          ⟨(some 16), none, .mv (.t 1)⟩,
          ⟨(some 17), none, .bin .neq (.t 15) (.t 16)⟩]) (
       .cond (.t 17) (
        .seq (
         .reg none [⟨(some 4), none, .asn (.c (.int .i64 (-1)))⟩]) (
        .ret)) (
        .skip))) (
      .reg none [⟨(some 18), none, .mv (.t 1)⟩,
        ⟨(some 19), none, .bin .add (.t 18) (.c (.int .i64 (1)))⟩,
        ⟨(some 1), none, .asn (.t 19)⟩]))) (
    .reg none [⟨(some 10), none, .mv (.t 5)⟩,
      ⟨(some 11), none, .bin .add (.t 10) (.c (.int .i64 (1)))⟩,
      ⟨(some 5), none, .asn (.t 11)⟩])))))) (
 .seq (
  .reg none [⟨(some 20), none, .mv (.t 1)⟩,
    ⟨(some 4), none, .asn (.t 20)⟩]) (
 .ret)))
def r_laws_heldIntS : Nat × List RV := (21, [.t 4])

theorem c_laws_heldIntS : cmpS PT PF PA (Try.prog.funcs[63]?) = some (r_laws_heldIntS.1, r_laws_heldIntS.2, stripK k_laws_heldIntS) := by kernel_rfl

theorem h_heldIntS (xs : List Int) (k : Int) (hk : 0 ≤ k) (hk2 : k + mI.nL xs < 2 ^ 50) : CallsF Try.prog 63 [.one (.ar false 0 1 ((mI.mkL xs k).map rI)), aI k] (aI (k + mI.nL xs)) := by
  refine Prun c_laws_heldIntS (by simp [r_laws_heldIntS]) (by simp) ?_
  unfold k_laws_heldIntS r_laws_heldIntS
  simp
  refine awp_loop (fun n σ => ∃ i : Nat, i ≤ xs.length ∧ n = xs.length - i ∧ σ = ⟨[(0, .one (.ar false 0 1 ((mI.mkL xs k).map rI))), (1, aI (mI.pos xs k i)), (5, aI i)], []⟩) (xs.length) ⟨0, by simp [Mk.pos_zero]⟩ ?_
  rintro n σ ⟨i, hi, rfl, rfl⟩
  have hn : (mI.nL xs : Int) = xs.length := by simp [mI_n]
  have hp1 : mI.pos xs k i ≤ k + mI.nL xs := Mk.pos_le hi
  have hp2 : k ≤ mI.pos xs k i := Mk.pos_ge
  by_cases h : i < xs.length
  · have hpst : mI.pos xs k (i + 1) = mI.pos xs k i + 1 := Mk.pos_step h
    have hle : mI.pos xs k (i + 1) ≤ k + mI.nL xs := Mk.pos_le h
    have w1 : IntKind.i64.wrap (mI.pos xs k i + 1) = mI.pos xs k (i + 1) := by rw [wrapI (by omega) (by omega), hpst]
    have w2 : IntKind.i64.wrap ((i : Int) + 1) = i + 1 := wrapI (by omega) (by omega)
    simp [h, Mk.mkL_at h, w1, w2]
    exact ⟨xs.length - (i + 1), by omega, i + 1, by omega, rfl, by simp⟩
  · have : i = xs.length := by omega
    subst this
    simp [Mk.pos_all]
end Go.Am
-- Err_hd
namespace Go.Am
open Go.Proofs
set_option maxHeartbeats 4000000
set_option maxRecDepth 100000
attribute [-simp] rSlot_len sSlot_len shr_rSlot shr_sSlot shrs_rSlot shrs_sSlot noSh_rSlot mSlot_wr mSlot_n rNode_len sNode_len shr_rNode shr_sNode shrs_rNode shrs_sNode noSh_rNode mNode_wr mNode_n rTree_len sTree_len shr_rTree shr_sTree shrs_rTree shrs_sTree noSh_rTree mTree_wr mTree_n rRun_len sRun_len shr_rRun shr_sRun shrs_rRun shrs_sRun noSh_rRun mRun_wr mRun_n rJob_len sJob_len shr_rJob shr_sJob shrs_rJob shrs_sJob noSh_rJob mJob_wr mJob_n rOutcome_len sOutcome_len shr_rOutcome shr_sOutcome shrs_rOutcome shrs_sOutcome noSh_rOutcome mOutcome_wr mOutcome_n rTenant_len sTenant_len shr_rTenant shr_sTenant shrs_rTenant shrs_sTenant noSh_rTenant mTenant_wr mTenant_n map_rs_Slot map_rs_Err map_rs_Outcome uTenant_wr uTenant_n rConf_len sConf_len shr_rConf shr_sConf shrs_rConf shrs_sConf noSh_rConf mConf_wr mConf_n rLine_len sLine_len shr_rLine shr_sLine shrs_rLine shrs_sLine noSh_rLine mLine_wr mLine_n rStore_len sStore_len shr_rStore shr_sStore shrs_rStore shrs_sStore noSh_rStore mStore_wr mStore_n uStore_wr uStore_n noSh_sOutcome noSh_sSlot noSh_sErr noSh_tenant
-- 103 loop.example/g00485/laws.heldErrS
def k_laws_heldErrS : K :=
 .seq (
  .reg none [⟨(some 4), none, .asn (.c (.int .i64 (0)))⟩]) (
 .seq (
  .seq (
   .reg none [⟨(some 5), none, .asn (.c (.int .i64 (0)))⟩]) (
  .block 0 (
   .loop (some ([0, 1, 5], [0, 1, 5, 1000])) (
    .seq (
     .seq (
      .reg none [⟨(some 6), none, .mv (.t 5)⟩,
        ⟨(some 7), none, .mv (.t 0)⟩,
        ⟨(some 8), none, .len (.t 7)⟩,
        ⟨(some 9), none, .bin .lss (.t 6) (.t 8)⟩]) (
     .cond (.t 9) (
      .skip) (
      .exit 0))) (
    .seq (
     .block 1 (
      .seq (
       .seq (
        .reg none [⟨(some 12), none, .mv (.t 0)⟩,
          ⟨(some 13), none, .mv (.t 5)⟩,
          ⟨(some 14), none, .iad 3 (.t 12) (.t 13)⟩,
          ⟨(some 15), none, .fad 0 (.t 14)⟩,
          ⟨(some 16), none, .ld 1 false (.t 15)⟩,
          ⟨(some 17), none, .mv (.t 1)⟩,
          ⟨(some 18), none, .bin .neq (.t 16) (.t 17)⟩]) (
       .cond (.t 18) (
        .seq (
         .reg none [⟨(some 4), none, .asn (.c (.int .i64 (-1)))⟩]) (
        .ret)) (
        .skip))) (
      .seq (
       .reg none [⟨(some 19), none, .mv (.t 1)⟩,
         ⟨(some 20), none, .bin .add (.t 19) (.c (.int .i64 (1)))⟩,
         ⟨(some 1), none, .asn (.t 20)⟩]) (
      .seq (
       .seq (
        .reg none [⟨(some 21), none, .mv (.t 0)⟩,
          ⟨(some 22), none, .mv (.t 5)⟩,
          ⟨(some 23), none, .iad 3 (.t 21) (.t 22)⟩,
          ⟨(some 24), none, .fad 1 (.t 23)⟩,
          ⟨(some 25), none, .ld 1 false (.t 24)⟩,
          ⟨(some 26), none, .mv (.t 1)⟩,
          ⟨(some 27), none, .bin .neq (.t 25) (.t 26)⟩]) (
       .cond (.t 27) (
        .seq (
         .reg none [⟨(some 4), none, .asn (.c (.int .i64 (-1)))⟩]) (
        .ret)) (
        .skip))) (
      .seq (
       .reg none [⟨(some 28), none, .mv (.t 1)⟩,
         ⟨(some 29), none, .bin .add (.t 28) (.c (.int .i64 (1)))⟩,
         ⟨(some 1), none, .asn (.t 29)⟩]) (
      .seq (
       .seq (
        .reg none [⟨(some 30), none, .mv (.t 0)⟩,
          ⟨(some 31), none, .mv (.t 5)⟩,
          ⟨(some 32), none, .iad 3 (.t 30) (.t 31)⟩,
          ⟨(some 33), none, .fad 2 (.t 32)⟩,
          ⟨(some 34), none, .ld 1 false (.t 33)⟩,
          ⟨(some 35), none, .mv (.t 1)⟩,
          ⟨(some 36), none, .bin .neq (.t 34) (.t 35)⟩]) (
       .cond (.t 36) (
        .seq (
         .reg none [⟨(some 4), none, .asn (.c (.int .i64 (-1)))⟩]) (
        .ret)) (
        .skip))) (
      .reg none [⟨(some 37), none, .mv (.t 1)⟩,
        ⟨(some 38), none, .bin .add (.t 37) (.c (.int .i64 (1)))⟩,
        ⟨(some 1), none, .asn (.t 38)⟩]))))))) (
    .reg none [⟨(some 10), none, .mv (.t 5)⟩,
      ⟨(some 11), none, .bin .add (.t 10) (.c (.int .i64 (1)))⟩,
      ⟨(some 5), none, .asn (.t 11)⟩])))))) (
 .seq (
  .reg none [⟨(some 39), none, .mv (.t 1)⟩,
    ⟨(some 4), none, .asn (.t 39)⟩]) (
 .ret)))
def r_laws_heldErrS : Nat × List RV := (40, [.t 4])

theorem c_laws_heldErrS : cmpS PT PF PA (Try.prog.funcs[103]?) = some (r_laws_heldErrS.1, r_laws_heldErrS.2, stripK k_laws_heldErrS) := by kernel_rfl

theorem h_heldErrS (xs : List TErr) (k : Int) (hk : 0 ≤ k) (hk2 : k + mErr.nL xs < 2 ^ 50) (hk3 : wL wErr xs < 2 ^ 50) : CallsF Try.prog 103 [.one (.ar false 0 3 ((mErr.mkL xs k).map sErr)), aI k] (aI (k + mErr.nL xs)) := by
  refine Prun c_laws_heldErrS (by simp [r_laws_heldErrS]) (by simp) ?_
  unfold k_laws_heldErrS r_laws_heldErrS
  have hlen := wL_len wErr xs
  simp
  refine awp_loop (fun n σ => ∃ i : Nat, i ≤ xs.length ∧ n = xs.length - i ∧ σ = ⟨[(0, .one (.ar false 0 3 ((mErr.mkL xs k).map sErr))), (1, aI (mErr.pos xs k i)), (5, aI i)], []⟩) (xs.length) ⟨0, by simp [Mk.pos_zero]⟩ ?_
  rintro n σ ⟨i, hi, rfl, rfl⟩
  have hp1 : mErr.pos xs k i ≤ k + mErr.nL xs := Mk.pos_le hi
  have hp2 : k ≤ mErr.pos xs k i := Mk.pos_ge
  by_cases h : i < xs.length
  · have hw := wL_get wErr xs i h
    have hpst : mErr.pos xs k (i + 1) = mErr.pos xs k i + mErr.n xs[i] := Mk.pos_step h
    have hle : mErr.pos xs k (i + 1) ≤ k + mErr.nL xs := Mk.pos_le h
    have hga := Mk.mkL_at (M := mErr) (k := k) h
    generalize hκ : mErr.pos xs k i = p0 at *
    rcases ha : xs[i] with ⟨bkind, bpos, bsym⟩
    simp only [ha, mErr_n, mErr_wr] at hpst hga
    simp only [ha, wErr] at hw
    obtain ⟨p1, hq1⟩ : ∃ p : Int, p = p0 + 1 := ⟨_, rfl⟩
    have ww0 : IntKind.i64.wrap (p0 + 1) = p1 := by rw [wrapI (by omega) (by omega), hq1]
    have nn0 : ¬ p1 < 0 := by omega
    obtain ⟨p2, hq2⟩ : ∃ p : Int, p = p1 + 1 := ⟨_, rfl⟩
    have ww1 : IntKind.i64.wrap (p1 + 1) = p2 := by rw [wrapI (by omega) (by omega), hq2]
    have nn1 : ¬ p2 < 0 := by omega
    obtain ⟨p3, hq3⟩ : ∃ p : Int, p = p2 + 1 := ⟨_, rfl⟩
    have ww2 : IntKind.i64.wrap (p2 + 1) = p3 := by rw [wrapI (by omega) (by omega), hq3]
    have nn2 : ¬ p3 < 0 := by omega
    simp only [← hq1, ← hq2, ← hq3] at hga
    simp [h, hga, sErr, ww0, nn0, ww1, nn1, ww2, nn2]
    refine ⟨xs.length - (i + 1), by omega, i + 1, by omega, rfl, ?_⟩
    rw [wrapI (by omega) (by omega)]
    simp; omega
  · have : i = xs.length := by omega
    subst this
    simp [Mk.pos_all]
end Go.Am
