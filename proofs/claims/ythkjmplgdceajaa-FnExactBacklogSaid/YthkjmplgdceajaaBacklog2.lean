/- PROVED: the program's Backlog returns what the reference's returns, for all arguments. -/
import Derived.Test.YthkjmplgdceajaaBacklog1
import Derived.Test.YthkjmplgdceajaaRows
import Derived.ProofKit
set_option linter.unusedVariables false
set_option linter.unusedSimpArgs false
-- L_Backlog
namespace Go.Am
open Go.Proofs
set_option maxHeartbeats 4000000
-- 9 loop.example/g00485/laws.FnExactBacklog
def k_laws_FnExactBacklog : K :=
 .seq (
  .reg none [⟨(some 1), none, .box 60 10 (.t 0)⟩,
    ⟨(some 2), none, .asn (.c (.bool false))⟩]) (
 .seq (
  .reg none [⟨(some 3), none, .asn (.c (.int .i64 (1048576)))⟩]) (
 .seq (
  .reg none [⟨(some 7), none, .ld 10 true (.t 1)⟩,
    ⟨(some 8), none, .mv (.t 3)⟩,
    ⟨(some 9), none, .call 37 [(.t 7), (.t 8)]⟩,
    ⟨(some 3), none, .asn (.t 9)⟩]) (
 .seq (
  .seq (
   .reg none [⟨(some 10), none, .mv (.t 3)⟩,
     ⟨(some 11), none, .bin .lss (.t 10) (.c (.int .i64 (0)))⟩]) (
  .cond (.t 11) (
   .seq (
    .reg none [⟨(some 2), none, .asn (.c (.bool true))⟩]) (
   .ret)) (
   .skip))) (
 .seq (
  .reg none [⟨(some 12), none, .ld 10 true (.t 1)⟩,
    ⟨(some 13), none, .call 39 [(.t 12)]⟩,
    ⟨(some 14), none, .call 42 [(.t 13)]⟩,
    ⟨(some 4), none, .asn (.t 14)⟩]) (
 .seq (
  .reg none [⟨(some 15), none, .ld 10 true (.t 1)⟩,
    ⟨(some 16), none, .call 39 [(.t 15)]⟩,
    ⟨(some 5), none, .alc 66 10 [(.int .i64 (0)), (.int .i64 (0)), (.int .i64 (0)), (.int .i64 (0)), (.int .i64 (0)), (.int .i64 (0)), (.int .i64 (0)), (.int .i64 (0)), (.ar true 104 10 []), (.ar true 107 3 [])]⟩,
    ⟨none, none, .st 10 false (.t 5) (.t 16)⟩]) (
 .seq (
  .reg none [⟨(some 17), none, .ld 10 true (.t 5)⟩,
    ⟨(some 18), none, .call 43 [(.t 17)]⟩,
    ⟨(some 6), none, .asn (.t 18)⟩]) (
 .seq (
  .seq (
   .reg none [⟨(some 19), none, .mv (.t 6)⟩,
     ⟨(some 20), none, .mv (.t 4)⟩,
     ⟨(some 21), none, .bin .neq (.t 19) (.t 20)⟩]) (
  .cond (.t 21) (
   .seq (
    .reg none [⟨(some 2), none, .asn (.c (.bool false))⟩]) (
   .ret)) (
   .skip))) (
 .seq (
  .seq (
   .grp none 3 [0, 1] [2] [⟨(some 22), none, .ld 10 true (.t 5)⟩,
     ⟨(some 23), none, .ld 10 true (.t 1)⟩,
     ⟨(some 24), none, .call 39 [(.t 23)]⟩,
     ⟨(some 25), none, .call 41 [(.t 22), (.t 24)]⟩,
     ⟨(some 26), none, .not (.t 25)⟩]) (
  .cond (.t 26) (
   .seq (
    .reg none [⟨(some 2), none, .asn (.c (.bool false))⟩]) (
   .ret)) (
   .skip))) (
 .seq (
  .reg none [⟨(some 2), none, .asn (.c (.bool true))⟩]) (
 .ret))))))))))
def r_laws_FnExactBacklog : Nat × List RV := (27, [.t 2])

theorem c_laws_FnExactBacklog : cmpS PT PF PA (Try.prog.funcs[9]?) = some (r_laws_FnExactBacklog.1, r_laws_FnExactBacklog.2, stripK k_laws_FnExactBacklog) := by kernel_rfl

set_option maxRecDepth 100000 in
theorem h_law_Backlog (a : TTenant) (hla : lTenant a) : CallsF Try.prog 9 [.agg (sTenant a)] (aB true) := by
  refine Prun c_laws_FnExactBacklog (by simp [r_laws_FnExactBacklog]) (by simp) ?_
  unfold k_laws_FnExactBacklog r_laws_FnExactBacklog
  have hsz1 := h_szTenant a 1048576 hla (by omega) (by omega)
  simp [sTenant]
  refine callG_F hsz1 (by simp) ?_
  by_cases g1 : (1048576 : Int) < (wTenant a : Int)
  · simp [lft_neg g1]
  have e1 : lft 1048576 (wTenant a) = 1048576 - wTenant a := lft_pos (by omega)
  have n1 : ¬ (1048576 : Int) - wTenant a < 0 := by omega
  simp [e1, n1]
  have hta := h_toTenant a (by omega)
  have hea := h_eqTenant a (by omega)
  have hs := h_spec_Backlog a (by omega)
  have hi := h_impl_Backlog a hla (by omega)
  first | refine callG_F hta (by simp) ?_ | refine gcal_F hta (by simp) ?_ | refine callRG_F hta rfl rfl (by simp) (by simp) ?_ | refine ⟨_, by simp, hta, ?_⟩
  try simp [rTenant]
  first | refine callG_F hs (by simp) ?_ | refine gcal_F hs (by simp) ?_ | refine callRG_F hs rfl rfl (by simp) (by simp) ?_ | refine ⟨_, by simp, hs, ?_⟩
  try simp [rTenant]
  first | refine callG_F hta (by simp) ?_ | refine gcal_F hta (by simp) ?_ | refine callRG_F hta rfl rfl (by simp) (by simp) ?_ | refine ⟨_, by simp, hta, ?_⟩
  try simp [rTenant]
  first | refine callG_F hi (by simp) ?_ | refine gcal_F hi (by simp) ?_ | refine callRG_F hi rfl rfl (by simp) (by simp) ?_ | refine ⟨_, by simp, hi, ?_⟩
  try simp [rTenant]
  first | refine callG_F hta (by simp) ?_ | refine gcal_F hta (by simp) ?_ | refine callRG_F hta rfl rfl (by simp) (by simp) ?_ | refine ⟨_, by simp, hta, ?_⟩
  try simp [rTenant]
  first | refine callG_F hea (by simp) ?_ | refine gcal_F hea (by simp) ?_ | refine callRG_F hea rfl rfl (by simp) (by simp) ?_ | refine ⟨_, by simp, hea, ?_⟩
  try simp [rTenant]
end Go.Am
-- Err_sh
namespace Go.Am
open Go.Proofs
set_option maxHeartbeats 4000000
def shErr : List Sh := [.i, .i, .i]
theorem of_Err (x : List C) (h : inShs shErr x) : ∃ a : TErr, x = sErr a ∧ lErr a := by
  simp only [shErr, inShs] at h
  obtain ⟨c0, r0, rfl, h0, c1, r1, rfl, h1, c2, r2, rfl, h2, rfl⟩ := h
  simp only [inSh] at h0
  obtain ⟨n0, rfl⟩ := h0
  simp only [inSh] at h1
  obtain ⟨n1, rfl⟩ := h1
  simp only [inSh] at h2
  obtain ⟨n2, rfl⟩ := h2
  refine ⟨⟨n0, n1, n2⟩, rfl, ?_⟩
  simp only [lErr]
end Go.Am
-- Node_sh
namespace Go.Am
open Go.Proofs
set_option maxHeartbeats 4000000
def shNode : List Sh := [.i, .i, .i, .i, .l 1 [.i]]
theorem of_Node (x : List C) (h : inShs shNode x) : ∃ a : TNode, x = sNode a ∧ lNode a := by
  simp only [shNode, inShs] at h
  obtain ⟨c0, r0, rfl, h0, c1, r1, rfl, h1, c2, r2, rfl, h2, c3, r3, rfl, h3, c4, r4, rfl, h4, rfl⟩ := h
  simp only [inSh] at h0
  obtain ⟨n0, rfl⟩ := h0
  simp only [inSh] at h1
  obtain ⟨n1, rfl⟩ := h1
  simp only [inSh] at h2
  obtain ⟨n2, rfl⟩ := h2
  simp only [inSh] at h3
  obtain ⟨n3, rfl⟩ := h3
  obtain ⟨n4, rfl, g4⟩ := of_sl of_int c4 h4
  refine ⟨⟨n0, n1, n2, n3, n4⟩, rfl, ?_⟩
  simp only [lNode]
  exact g4
end Go.Am
-- Slot_sh
namespace Go.Am
open Go.Proofs
set_option maxHeartbeats 4000000
def shSlot : List Sh := [.i, .i]
theorem of_Slot (x : List C) (h : inShs shSlot x) : ∃ a : TSlot, x = sSlot a ∧ lSlot a := by
  simp only [shSlot, inShs] at h
  obtain ⟨c0, r0, rfl, h0, c1, r1, rfl, h1, rfl⟩ := h
  simp only [inSh] at h0
  obtain ⟨n0, rfl⟩ := h0
  simp only [inSh] at h1
  obtain ⟨n1, rfl⟩ := h1
  refine ⟨⟨n0, n1⟩, rfl, ?_⟩
  simp only [lSlot]
end Go.Am
-- Job_sh
namespace Go.Am
open Go.Proofs
set_option maxHeartbeats 4000000
def shJob : List Sh := [.i, .i, .l 1 [.i], .i, .i, .i, .i, .l 2 shSlot, .l 5 shNode, .l 3 shErr]
theorem of_Job (x : List C) (h : inShs shJob x) : ∃ a : TJob, x = sJob a ∧ lJob a := by
  simp only [shJob, inShs] at h
  obtain ⟨c0, r0, rfl, h0, c1, r1, rfl, h1, c2, r2, rfl, h2, c3, r3, rfl, h3, c4, r4, rfl, h4, c5, r5, rfl, h5, c6, r6, rfl, h6, c7, r7, rfl, h7, c8, r8, rfl, h8, c9, r9, rfl, h9, rfl⟩ := h
  simp only [inSh] at h0
  obtain ⟨n0, rfl⟩ := h0
  simp only [inSh] at h1
  obtain ⟨n1, rfl⟩ := h1
  obtain ⟨n2, rfl, g2⟩ := of_sl of_int c2 h2
  simp only [inSh] at h3
  obtain ⟨n3, rfl⟩ := h3
  simp only [inSh] at h4
  obtain ⟨n4, rfl⟩ := h4
  simp only [inSh] at h5
  obtain ⟨n5, rfl⟩ := h5
  simp only [inSh] at h6
  obtain ⟨n6, rfl⟩ := h6
  obtain ⟨n7, rfl, g7⟩ := of_sl of_Slot c7 h7
  obtain ⟨n8, rfl, g8⟩ := of_sl of_Node c8 h8
  obtain ⟨n9, rfl, g9⟩ := of_sl of_Err c9 h9
  refine ⟨⟨n0, n1, n2, ⟨n3, n4, n5, n6, n7, ⟨n8⟩, n9⟩⟩, rfl, ?_⟩
  simp only [lJob, lRun, lTree]
  exact ⟨g2, ⟨g7, g8, g9⟩⟩
end Go.Am
-- Outcome_sh
namespace Go.Am
open Go.Proofs
set_option maxHeartbeats 4000000
def shOutcome : List Sh := [.i, .i, .s]
theorem of_Outcome (x : List C) (h : inShs shOutcome x) : ∃ a : TOutcome, x = sOutcome a ∧ lOutcome a := by
  simp only [shOutcome, inShs] at h
  obtain ⟨c0, r0, rfl, h0, c1, r1, rfl, h1, c2, r2, rfl, h2, rfl⟩ := h
  simp only [inSh] at h0
  obtain ⟨n0, rfl⟩ := h0
  simp only [inSh] at h1
  obtain ⟨n1, rfl⟩ := h1
  simp only [inSh] at h2
  obtain ⟨n2, rfl, g2⟩ := h2
  refine ⟨⟨n0, n1, n2⟩, rfl, ?_⟩
  simp only [lOutcome]
  exact g2
end Go.Am
-- Tenant_sh
namespace Go.Am
open Go.Proofs
set_option maxHeartbeats 4000000
def shTenant : List Sh := [.i, .i, .i, .i, .i, .i, .i, .i, .l 10 shJob, .l 3 shOutcome]
theorem of_Tenant (x : List C) (h : inShs shTenant x) : ∃ a : TTenant, x = sTenant a ∧ lTenant a := by
  simp only [shTenant, inShs] at h
  obtain ⟨c0, r0, rfl, h0, c1, r1, rfl, h1, c2, r2, rfl, h2, c3, r3, rfl, h3, c4, r4, rfl, h4, c5, r5, rfl, h5, c6, r6, rfl, h6, c7, r7, rfl, h7, c8, r8, rfl, h8, c9, r9, rfl, h9, rfl⟩ := h
  simp only [inSh] at h0
  obtain ⟨n0, rfl⟩ := h0
  simp only [inSh] at h1
  obtain ⟨n1, rfl⟩ := h1
  simp only [inSh] at h2
  obtain ⟨n2, rfl⟩ := h2
  simp only [inSh] at h3
  obtain ⟨n3, rfl⟩ := h3
  simp only [inSh] at h4
  obtain ⟨n4, rfl⟩ := h4
  simp only [inSh] at h5
  obtain ⟨n5, rfl⟩ := h5
  simp only [inSh] at h6
  obtain ⟨n6, rfl⟩ := h6
  simp only [inSh] at h7
  obtain ⟨n7, rfl⟩ := h7
  obtain ⟨n8, rfl, g8⟩ := of_sl of_Job c8 h8
  obtain ⟨n9, rfl, g9⟩ := of_sl of_Outcome c9 h9
  refine ⟨⟨n0, n1, n2, n3, n4, n5, n6, n7, n8, n9⟩, rfl, ?_⟩
  simp only [lTenant]
  exact ⟨g8, g9⟩
end Go.Am
-- B_FnExactBacklog
namespace Go.Am
open Go.Proofs
set_option maxHeartbeats 4000000
open Go.ChangeShapes Go.WideShapes Go.ChangeAt Go.RowKit Go.Proofs.Ythkjmplgdceajaa
theorem own_FnExactBacklog : ownKnob Try.prog.godebug = none := by kernel_rfl
theorem laidOut_FnExactBacklog : laidOutB Try.prog = true := by kernel_rfl
set_option maxRecDepth 100000 in
theorem lifted_FnExactBacklog (os : Os) (started : os.Started) (H : Type) (enc : TypeId × Value → H) :
    ReturnsInHanded {} Try.checked os 9 .any (Rows.fnExactBacklogSpec.pre6 enc Try.prog Try.f9 Rows.fnExactBacklogRow.domain false) (Rows.fnExactBacklogSpec.post enc Try.prog Try.f9 false true false false) := by
  refine returnsInHanded_of_change (C := Try.checked) own_FnExactBacklog started (by kernel_rfl) Try.func9
    (ChangeSpec.witness6 (enc := enc) (C := Try.checked) false ⟨#[], #[.agg #[.int .i64 0, .int .i64 0, .int .i64 0, .int .i64 0, .int .i64 0, .int .i64 0, .int .i64 0, .int .i64 0, .slice none 0 0, .slice none 0 0]], []⟩ 8 (by kernel_rfl) (by kernel_rfl) (by kernel_rfl) (by kernel_rfl)) ?_
  intro W base args ds gs before hval0 hW hcnd _
  have hval : ∀ (j : Nat) t v, Try.f9.params[j]? = some t → args[j]? = some v → Value.okWide Try.prog W .any base t v := hval0
  have hW' := hW
  obtain ⟨p, q, hA0, hV, rfl, hfz, hnd⟩ := hW
  have hA : DataW.TrodAll enc Try.prog W 0 (fun _ => true) true Try.f9.params.toList args.toList ds p := hA0
  rw [Try.params9] at hA hval
  obtain ⟨v0, d0, rfl, rfl, h0⟩ := trodAll_one hA
  obtain ⟨rfl, rfl⟩ := trodVars_none hV
  have hV0 : ∀ (W' : World) (sp : Nat → Bool), DataW.TrodVars enc Try.checked.prog W' sp Rows.fnExactBacklogSpec.vars ([] : List (DataW H)) [] := fun _ _ => by first | rfl | trivial | exact ⟨rfl, rfl⟩ | exact ⟨_, rfl, rfl⟩
  have hk0 := h0
  have hs0 : shT Try.prog 12 60 = some shTenant := by kernel_rfl
  obtain ⟨row0, hc0, hr0⟩ := arg_st (lc := fun _ => none) Try.underlying60 hs0 (hval 0 60 v0 rfl rfl) h0
  obtain ⟨x0, rfl, hl0⟩ := of_Tenant row0 hc0
  clear hA0 hval0
  simp only [List.append_nil] at hW'
  refine (below_of (h_law_Backlog x0 hl0) (fun _ _ _ _ h => h.1) W [v0] (by simp [sTenant, aI, A.ref, C.ref, refCs]) ⟨_, _, fz, fz, rfl, (add_fz _).symm, hr0, ⟨rfl, rfl⟩⟩ rfl).mono fun e W' ⟨he, hw⟩ => ?_
  subst he
  exact ⟨_, rfl, [d0], [], _, [], _, [], by simpa using hW', trodAll_mk1 (shut_bool Try.underlying4 true), trodAll_mk1 (Below.trod laidOut_FnExactBacklog (by kernel_rfl) (of_decide_eq_true (by kernel_rfl)) hk0 hw (fun x hx => by have := hW'.lt x (by simp [hx]); simpa using this)), hV0 _ _, hw.frame _, fun h => by cases h⟩
theorem holds_FnExactBacklog : Rows.FnExactBacklogSaid :=
  OpenClaim.holds_of_wide 9 Try.f9 rfl rfl rfl rfl rfl rfl rfl ⟨rfl, rfl, rfl, rfl, rfl⟩ rfl rfl rfl rfl rfl (by kernel_rfl) Try.func9 (by kernel_rfl)
    (of_decide_eq_true (by kernel_rfl)) (by unfold Func.isWrapper; first | (rw [if_pos (by decide +kernel)]; kernel_rfl) | (rw [if_neg (by decide +kernel)]; exact ⟨rfl, rfl⟩))
    (fun os started H enc _ => lifted_FnExactBacklog os started H enc)
#print axioms holds_FnExactBacklog
end Go.Am
namespace Go.Proofs.Ythkjmplgdceajaa
theorem fnExactBacklog_holds : Rows.FnExactBacklogSaid := Go.Am.holds_FnExactBacklog
end Go.Proofs.Ythkjmplgdceajaa
