/- PROVED: a house in which was asked: the same of the program and the reference, new memory each time, nothing written into an argument -/
import Derived.Test.YtgggibfhgehidaaGreatSubmit3
import Derived.Test.YtgggibfhgehidaaGreatRows
import Derived.ProofKit
set_option linter.unusedVariables false
set_option linter.unusedSimpArgs false
namespace Go.Am
open Go.Proofs
set_option maxHeartbeats 4000000
set_option maxRecDepth 100000
attribute [-simp] BitVec.toNat_or BitVec.toNat_and BitVec.toNat_ofInt
section
attribute [-simp] map_rs_Slot map_rs_Err map_rs_Outcome
def shJob : List Sh := [.i, .i, .l 1 [.i], .i, .i, .i, .i, .l 2 shSlot, .l 5 shNode, .l 3 shErr]
theorem of_Job (x : List C) (h : inShs shJob x) : ∃ a : TJob, x = sJob a ∧ lJob a := by
 simp only [shJob, inShs] at h
 obtain ⟨c0, r0, rfl, h0, c1, r1, rfl, h1, c2, r2, rfl, h2, c3, r3, rfl, h3, c4, r4, rfl, h4, c5, r5, rfl, h5, c6, r6, rfl, h6, c7, r7, rfl, h7, c8, r8, rfl, h8, c9, r9, rfl, h9, rfl⟩ := h
 simp only [inSh] at h0
 obtain ⟨n0, rfl, v0⟩ := h0
 simp only [inSh] at h1
 obtain ⟨n1, rfl, v1⟩ := h1
 obtain ⟨n2, rfl, g2⟩ := of_sl of_int c2 h2
 simp only [inSh] at h3
 obtain ⟨n3, rfl, v3⟩ := h3
 simp only [inSh] at h4
 obtain ⟨n4, rfl, v4⟩ := h4
 simp only [inSh] at h5
 obtain ⟨n5, rfl, v5⟩ := h5
 simp only [inSh] at h6
 obtain ⟨n6, rfl, v6⟩ := h6
 obtain ⟨n7, rfl, g7⟩ := of_sl of_Slot c7 h7
 obtain ⟨n8, rfl, g8⟩ := of_sl of_Node c8 h8
 obtain ⟨n9, rfl, g9⟩ := of_sl of_Err c9 h9
 refine ⟨⟨n0, n1, n2, ⟨n3, n4, n5, n6, n7, ⟨n8⟩, n9⟩⟩, rfl, ?_⟩
 simp only [lJob, lRun, lTree]
 exact ⟨g2, ⟨g7, g8, g9⟩⟩
end
section
attribute [-simp] map_rs_Slot map_rs_Err map_rs_Outcome
def shOutcome : List Sh := [.i, .i, .s]
theorem of_Outcome (x : List C) (h : inShs shOutcome x) : ∃ a : TOutcome, x = sOutcome a ∧ lOutcome a := by
 simp only [shOutcome, inShs] at h
 obtain ⟨c0, r0, rfl, h0, c1, r1, rfl, h1, c2, r2, rfl, h2, rfl⟩ := h
 simp only [inSh] at h0
 obtain ⟨n0, rfl, v0⟩ := h0
 simp only [inSh] at h1
 obtain ⟨n1, rfl, v1⟩ := h1
 simp only [inSh] at h2
 obtain ⟨n2, rfl, g2⟩ := h2
 refine ⟨⟨n0, n1, n2⟩, rfl, ?_⟩
 simp only [lOutcome]
 exact g2
end
section
attribute [-simp] map_rs_Slot map_rs_Err map_rs_Outcome
def shTenant : List Sh := [.i, .i, .i, .i, .i, .i, .i, .i, .l 10 shJob, .l 3 shOutcome]
theorem of_Tenant (x : List C) (h : inShs shTenant x) : ∃ a : TTenant, x = sTenant a ∧ lTenant a := by
 simp only [shTenant, inShs] at h
 obtain ⟨c0, r0, rfl, h0, c1, r1, rfl, h1, c2, r2, rfl, h2, c3, r3, rfl, h3, c4, r4, rfl, h4, c5, r5, rfl, h5, c6, r6, rfl, h6, c7, r7, rfl, h7, c8, r8, rfl, h8, c9, r9, rfl, h9, rfl⟩ := h
 simp only [inSh] at h0
 obtain ⟨n0, rfl, v0⟩ := h0
 simp only [inSh] at h1
 obtain ⟨n1, rfl, v1⟩ := h1
 simp only [inSh] at h2
 obtain ⟨n2, rfl, v2⟩ := h2
 simp only [inSh] at h3
 obtain ⟨n3, rfl, v3⟩ := h3
 simp only [inSh] at h4
 obtain ⟨n4, rfl, v4⟩ := h4
 simp only [inSh] at h5
 obtain ⟨n5, rfl, v5⟩ := h5
 simp only [inSh] at h6
 obtain ⟨n6, rfl, v6⟩ := h6
 simp only [inSh] at h7
 obtain ⟨n7, rfl, v7⟩ := h7
 obtain ⟨n8, rfl, g8⟩ := of_sl of_Job c8 h8
 obtain ⟨n9, rfl, g9⟩ := of_sl of_Outcome c9 h9
 refine ⟨⟨n0, n1, n2, n3, n4, n5, n6, n7, n8, n9⟩, rfl, ?_⟩
 simp only [lTenant]
 exact ⟨g8, g9⟩
end
section
attribute [-simp] map_rs_Slot map_rs_Err map_rs_Outcome
def shHouse : List Sh := [.i, .i, .l 1 shGram, .l 2 shStore, .l 10 shTenant]
theorem of_House (x : List C) (h : inShs shHouse x) : ∃ a : THouse, x = sHouse a ∧ lHouse a := by
 simp only [shHouse, inShs] at h
 obtain ⟨c0, r0, rfl, h0, c1, r1, rfl, h1, c2, r2, rfl, h2, c3, r3, rfl, h3, c4, r4, rfl, h4, rfl⟩ := h
 simp only [inSh] at h0
 obtain ⟨n0, rfl, v0⟩ := h0
 simp only [inSh] at h1
 obtain ⟨n1, rfl, v1⟩ := h1
 obtain ⟨n2, rfl, g2⟩ := of_sl of_Gram c2 h2
 obtain ⟨n3, rfl, g3⟩ := of_sl of_Store c3 h3
 obtain ⟨n4, rfl, g4⟩ := of_sl of_Tenant c4 h4
 refine ⟨⟨n0, n1, n2, n3, n4⟩, rfl, ?_⟩
 simp only [lHouse]
 exact ⟨g2, g3, g4⟩
end
section
open Go.ChangeShapes Go.WideShapes Go.ChangeAt Go.RowKit Go.Proofs.YtgggibfhgehidaaGreat
theorem own_FnExactSubmit : ownKnob Tryz.prog.godebug = none := by kernel_rfl
theorem laidOut_FnExactSubmit : laidOutB Tryz.prog = true := by kernel_rfl
theorem lifted_FnExactSubmit (os : Os) (started : os.Started) (H : Type) (enc : TypeId × Value → H) :
 ReturnsInHanded {} Tryz.checked os 10 .any (Rows.fnExactSubmitSpec.pre6 enc Tryz.prog Tryz.f10 Rows.fnExactSubmitRow.domain false) (Rows.fnExactSubmitSpec.post enc Tryz.prog Tryz.f10 false true false false) := by
 refine returnsInHanded_of_change (C := Tryz.checked) own_FnExactSubmit started (by kernel_rfl) Tryz.func10
  (ChangeSpec.witness6 (enc := enc) (C := Tryz.checked) false ⟨#[], #[.agg #[.int .i64 0, .int .i64 0, .slice none 0 0, .slice none 0 0, .slice none 0 0], .int .i64 0, .int .i64 0, .slice none 0 0], []⟩ 8 (by kernel_rfl) (by kernel_rfl) (by kernel_rfl) (by kernel_rfl)) ?_
 intro W base args ds gs before hval0 hW hcnd _
 have hval : ∀ (j : Nat) t v, Tryz.f10.params[j]? = some t → args[j]? = some v → Value.okWide Tryz.prog W .any base t v := hval0
 have hW' := hW
 obtain ⟨p, q, hA0, hV, rfl, hfz, hnd⟩ := hW
 have hA : DataW.TrodAll enc Tryz.prog W 0 (fun _ => true) true Tryz.f10.params.toList args.toList ds p := hA0
 rw [Tryz.params10] at hA hval
 obtain ⟨v0, v1, v2, v3, d0, d1, d2, d3, p0, p1, p2, p3, rfl, rfl, rfl, h0, h1, h2, h3⟩ := trodAll_four hA
 obtain ⟨rfl, rfl⟩ := trodVars_none hV
 have hV0 : ∀ (W' : World) (sp : Nat → Bool), DataW.TrodVars enc Tryz.checked.prog W' sp Rows.fnExactSubmitSpec.vars ([] : List (DataW H)) [] := fun _ _ => by first | rfl | trivial | exact ⟨rfl, rfl⟩ | exact ⟨_, rfl, rfl⟩
 have hk0 := h0
 have hs0 : shT Tryz.prog 12 75 = some shHouse := by kernel_rfl
 obtain ⟨row0, hc0, hr0⟩ := arg_st (lc := fun _ => none) Tryz.underlying75 hs0 (hval 0 75 v0 rfl rfl) h0
 obtain ⟨x0, rfl, hl0⟩ := of_House row0 hc0
 obtain ⟨a1, rfl, rfl, rfl, wa1⟩ := open_int Tryz.underlying3 (hval 1 3 v1 rfl rfl) h1
 obtain ⟨a2, rfl, rfl, rfl, wa2⟩ := open_int Tryz.underlying3 (hval 2 3 v2 rfl rfl) h2
 have hk3 := h3
 have hs3 : shT Tryz.prog 12 28 = some [.l 1 [.i]] := by kernel_rfl
 obtain ⟨c3, hc3, hr3⟩ := arg_sl (lc := fun _ => none) Tryz.underlying28 hs3 (hval 3 28 v3 rfl rfl) h3
 obtain ⟨x3, rfl, hl3⟩ := of_sl of_int c3 hc3
 clear hA0 hval0
 simp only [List.append_nil] at hW'
 refine (below_of (h_law_Submit x0 hl0 a1 a2 x3 hl3) (fun _ _ _ _ h => h.1) W [v0, .int .i64 a1, .int .i64 a2, v3] (by simp [sHouse, aI, aS, A.ref, C.ref, refCs]) ⟨_, _, fz, fz, rfl, (add_fz _).symm, hr0, ⟨_, _, fz, fz, rfl, (add_fz _).symm, ⟨rfl, rfl⟩, ⟨_, _, fz, fz, rfl, (add_fz _).symm, ⟨rfl, rfl⟩, ⟨_, _, fz, fz, rfl, (add_fz _).symm, hr3, ⟨rfl, rfl⟩⟩⟩⟩⟩ rfl).mono fun e W' ⟨he, hw⟩ => ?_
 subst he
 exact ⟨_, rfl, [d0, .lit (.int .i64 a1), .lit (.int .i64 a2), d3], [], _, [], _, [], by simpa using hW', trodAll_mk1 (shut_bool Tryz.underlying4 true), trodAll_mk4 (Below.trod laidOut_FnExactSubmit (by kernel_rfl) (of_decide_eq_true (by kernel_rfl)) hk0 hw (fun x hx => by have := hW'.lt x (by simp [hx]); simpa using this)) (shut_int Tryz.underlying3 wa1) (shut_int Tryz.underlying3 wa2) (Below.trod laidOut_FnExactSubmit (by kernel_rfl) (of_decide_eq_true (by kernel_rfl)) hk3 hw (fun x hx => by have := hW'.lt x (by simp [hx]); simpa using this)), hV0 _ _, hw.frame _, fun h => by cases h⟩
theorem jf0 : (Rows.fnExactSubmitRow.wf (OpenSpec.ofChange Rows.fnExactSubmitSpec)) = true := by kernel_rfl
theorem jf1 : (laidOutB Tryz.checked.prog) = true := by kernel_rfl
theorem jf2 : (mapsRowed Tryz.checked.prog) = true := by kernel_rfl
theorem jf3 : (Tryz.f10.params.all (Tryz.checked.prog.readableRec ·)) = true := by kernel_rfl
theorem jf4 : (namedTie Tryz.checked.prog Rows.fnExactSubmitRow.named Rows.fnExactSubmitSpec.vars) = true := by kernel_rfl
theorem jf5 : ((Rows.fnExactSubmitRow.stops == [])) = true := by kernel_rfl
theorem jf6 : ((Tryz.checked.prog.stops == [])) = true := by kernel_rfl
theorem jf7 : ((Rows.fnExactSubmitRow.knobs == [])) = true := by kernel_rfl
theorem jf8 : ((Tryz.checked.prog.stopKnobs == [])) = true := by kernel_rfl
theorem jf9 : ((Rows.fnExactSubmitRow.inPlace == Tryz.checked.prog.inPlace 10)) = true := by kernel_rfl
theorem jf10 : ((Rows.fnExactSubmitRow.unfollowed == Tryz.checked.prog.unfollowed 10)) = true := by kernel_rfl
theorem jf11 : ((Rows.fnExactSubmitRow.recurses == Tryz.checked.prog.recurses 10)) = true := by kernel_rfl
theorem jf12 : ((Rows.fnExactSubmitRow.named == Tryz.checked.prog.varsNamed 10)) = true := by kernel_rfl
theorem jf13 : ((Rows.fnExactSubmitRow.maps == (Tryz.f10.params.toList ++ Rows.fnExactSubmitSpec.plain.varTypes Tryz.checked.prog).any (Tryz.checked.prog.mapsRec ·))) = true := by kernel_rfl
theorem jf14 : ((Rows.fnExactSubmitRow.ifaces == (Tryz.f10.params.toList ++ Rows.fnExactSubmitSpec.plain.varTypes Tryz.checked.prog).any (Tryz.checked.prog.ifacesRec ·))) = true := by kernel_rfl
theorem jf15 : ((Rows.fnExactSubmitRow.mapsOut == Tryz.checked.prog.mapsAmong Tryz.f10.resultTypes.toList)) = true := by kernel_rfl
theorem jf16 : ((Rows.fnExactSubmitRow.loops == (Tryz.f10.params.toList ++ Rows.fnExactSubmitSpec.plain.varTypes Tryz.checked.prog).any (Tryz.checked.prog.loopsFrom ·))) = true := by kernel_rfl
theorem jf17 : ((Rows.fnExactSubmitRow.wideKeys == (Tryz.f10.params.toList ++ Rows.fnExactSubmitSpec.plain.varTypes Tryz.checked.prog ++ Tryz.f10.resultTypes.toList).any (Tryz.checked.prog.wideKeysFrom ·))) = true := by kernel_rfl
theorem jf18 : (Rows.fnExactSubmitSpec.vars.all (Tryz.checked.prog.varReadable ·)) = true := by kernel_rfl
theorem jf19 : (Tryz.f10.resultTypes.all (fun t => Tryz.checked.prog.readableRec t && decide (t < Tryz.checked.prog.types.size))) = true := by kernel_rfl
theorem jf20 : ((Rows.fnExactSubmitRow.ifacesOut == Tryz.f10.resultTypes.toList.any (Tryz.checked.prog.ifacesRec ·))) = true := by kernel_rfl
theorem jf21 : ((Rows.fnExactSubmitRow.loopsOut == Tryz.f10.resultTypes.toList.any (Tryz.checked.prog.loopsFrom ·))) = true := by kernel_rfl
theorem jf22 : ((Rows.fnExactSubmitRow.plainKeys == Tryz.checked.prog.plainKeys)) = true := by kernel_rfl
theorem jf23 : (Rows.fnExactSubmitRow.shortTexts.isNone) = true := by kernel_rfl
theorem jf24 : (Tryz.checked.prog.stopsHeard) = true := by kernel_rfl
theorem jf25 : (Tryz.checked.prog.mayEnter) = true := by kernel_rfl
theorem jf26 : ((Rows.fnExactSubmitRow.lifted == Tryz.checked.prog.liftsFinal)) = true := by kernel_rfl
theorem jf27 : ((Tryz.checked.prog.make == some Rows.fnExactSubmitRow.make)) = true := by kernel_rfl
theorem jf29 : ((Rows.fnExactSubmitRow.pinned == Rows.fnExactSubmitRow.pinnedBy)) = true := by kernel_rfl
theorem jf30 : ((Rows.fnExactSubmitRow.veiled == (Tryz.f10.params.toList ++ Rows.fnExactSubmitSpec.plain.varTypes Tryz.checked.prog ++ Tryz.f10.resultTypes.toList).any (Tryz.checked.prog.veiledRec ·))) = true := by kernel_rfl
theorem jf31 : (Rows.fnExactSubmitRow.veiledFits Tryz.checked.prog Tryz.f10.params.toList (Tryz.f10.params.toList ++ Rows.fnExactSubmitSpec.plain.varTypes Tryz.checked.prog ++ Tryz.f10.resultTypes.toList)) = true := by kernel_rfl
theorem jf : joinedFacts Tryz.checked.prog 10 Tryz.f10 Rows.fnExactSubmitSpec Rows.fnExactSubmitRow = true := by
 unfold joinedFacts
 simp only [Bool.and_eq_true]
 repeat' apply And.intro
 exact jf0
 exact jf1
 exact jf2
 exact jf3
 exact jf4
 exact jf5
 exact jf6
 exact jf7
 exact jf8
 exact jf9
 exact jf10
 exact jf11
 exact jf12
 exact jf13
 exact jf14
 exact jf15
 exact jf16
 exact jf17
 exact jf18
 exact jf19
 exact jf20
 exact jf21
 exact jf22
 exact jf23
 exact jf24
 exact jf25
 exact jf26
 exact jf27
 ·kernel_rfl
 exact jf29
 exact jf30
 exact jf31
theorem holds_FnExactSubmit : Rows.FnExactSubmitSaid :=
 OpenClaim.holds_of_wide 10 Tryz.f10 rfl rfl rfl rfl rfl rfl rfl ⟨rfl, rfl, rfl, rfl, rfl⟩ rfl rfl rfl rfl rfl (by kernel_rfl) Tryz.func10 jf
  (of_decide_eq_true (by kernel_rfl)) (by unfold Func.isWrapper; first | (rw [if_pos (by decide +kernel)]; kernel_rfl) | (rw [if_neg (by decide +kernel)]; exact ⟨rfl, rfl⟩))
  (fun os started H enc _ => lifted_FnExactSubmit os started H enc)
#print axioms holds_FnExactSubmit
end
end Go.Am
namespace Go.Proofs.YtgggibfhgehidaaGreat
theorem fnExactSubmit_holds : Rows.FnExactSubmitSaid := Go.Am.holds_FnExactSubmit
end Go.Proofs.YtgggibfhgehidaaGreat
