/- PROVED: a house in which a job was taken back: the same of the program and the reference, new memory each time, nothing written into the argument -/
import Derived.Test.YtgggibfhgehidaaGreatCancel3
import Derived.Test.YtgggibfhgehidaaGreatRows
import Derived.ProofKit
set_option linter.unusedVariables false
set_option linter.unusedSimpArgs false
namespace Go.Am
open Go.Proofs
set_option maxHeartbeats 4000000
set_option maxRecDepth 100000
attribute [-simp] BitVec.toNat_or BitVec.toNat_and BitVec.toNat_ofInt
section
attribute [-simp] z03 z04 z00
def c0m : List Sh := [.i, .l 1 [.i]]
theorem z1m (x : List C) (h : y0p c0m x) : ∃ a : TConf, x = z0f a ∧ h02 a := by
 simp only [c0m, y0p] at h
 obtain ⟨c0, r0, rfl, h0, c1, r1, rfl, h1, rfl⟩ := h
 simp only [inSh] at h0
 obtain ⟨n0, rfl, v0⟩ := h0
 obtain ⟨n1, rfl, g1⟩ := t0z d0f c1 h1
 refine ⟨⟨n0, n1⟩, rfl, ?_⟩
 simp only [h02]
 exact g1
end
section
attribute [-simp] z03 z04 z00
def x10 : List Sh := [.l 2 c0m, .i, .l 2 c0m]
theorem o1q (x : List C) (h : y0p x10 x) : ∃ a : TLine, x = y0b a ∧ b0y a := by
 simp only [x10, y0p] at h
 obtain ⟨c0, r0, rfl, h0, c1, r1, rfl, h1, c2, r2, rfl, h2, rfl⟩ := h
 obtain ⟨n0, rfl, g0⟩ := t0z z1m c0 h0
 simp only [inSh] at h1
 obtain ⟨n1, rfl, v1⟩ := h1
 obtain ⟨n2, rfl, g2⟩ := t0z z1m c2 h2
 refine ⟨⟨n0, n1, n2⟩, rfl, ?_⟩
 simp only [b0y]
 exact ⟨g0, g2⟩
end
section
attribute [-simp] z03 z04 z00
def f0y : List Sh := [.i, .l 3 x10]
theorem u1h (x : List C) (h : y0p f0y x) : ∃ a : TStore, x = y01 a ∧ q0a a := by
 simp only [f0y, y0p] at h
 obtain ⟨c0, r0, rfl, h0, c1, r1, rfl, h1, rfl⟩ := h
 simp only [inSh] at h0
 obtain ⟨n0, rfl, v0⟩ := h0
 obtain ⟨n1, rfl, g1⟩ := t0z o1q c1 h1
 refine ⟨⟨n0, n1⟩, rfl, ?_⟩
 simp only [q0a]
 exact g1
end
section
attribute [-simp] z03 z04 z00
def m1k : List Sh := [.i, .i, .i]
theorem e1j (x : List C) (h : y0p m1k x) : ∃ a : TErr, x = sErr a ∧ lErr a := by
 simp only [m1k, y0p] at h
 obtain ⟨c0, r0, rfl, h0, c1, r1, rfl, h1, c2, r2, rfl, h2, rfl⟩ := h
 simp only [inSh] at h0
 obtain ⟨n0, rfl, v0⟩ := h0
 simp only [inSh] at h1
 obtain ⟨n1, rfl, v1⟩ := h1
 simp only [inSh] at h2
 obtain ⟨n2, rfl, v2⟩ := h2
 refine ⟨⟨n0, n1, n2⟩, rfl, ?_⟩
 simp only [lErr]
end
section
attribute [-simp] z03 z04 z00
def v13 : List Sh := [.i, .i, .i, .i, .l 1 [.i]]
theorem r1o (x : List C) (h : y0p v13 x) : ∃ a : TNode, x = x0k a ∧ c0v a := by
 simp only [v13, y0p] at h
 obtain ⟨c0, r0, rfl, h0, c1, r1, rfl, h1, c2, r2, rfl, h2, c3, r3, rfl, h3, c4, r4, rfl, h4, rfl⟩ := h
 simp only [inSh] at h0
 obtain ⟨n0, rfl, v0⟩ := h0
 simp only [inSh] at h1
 obtain ⟨n1, rfl, v1⟩ := h1
 simp only [inSh] at h2
 obtain ⟨n2, rfl, v2⟩ := h2
 simp only [inSh] at h3
 obtain ⟨n3, rfl, v3⟩ := h3
 obtain ⟨n4, rfl, g4⟩ := t0z d0f c4 h4
 refine ⟨⟨n0, n1, n2, n3, n4⟩, rfl, ?_⟩
 simp only [c0v]
 exact g4
end
section
attribute [-simp] z03 z04 z00
def x1h : List Sh := [.i, .i]
theorem n1q (x : List C) (h : y0p x1h x) : ∃ a : TSlot, x = w0i a ∧ u1u a := by
 simp only [x1h, y0p] at h
 obtain ⟨c0, r0, rfl, h0, c1, r1, rfl, h1, rfl⟩ := h
 simp only [inSh] at h0
 obtain ⟨n0, rfl, v0⟩ := h0
 simp only [inSh] at h1
 obtain ⟨n1, rfl, v1⟩ := h1
 refine ⟨⟨n0, n1⟩, rfl, ?_⟩
 simp only [u1u]
end
section
attribute [-simp] z03 z04 z00
def n17 : List Sh := [.i, .i, .l 1 [.i], .i, .i, .i, .i, .l 2 x1h, .l 5 v13, .l 3 m1k]
theorem f1k (x : List C) (h : y0p n17 x) : ∃ a : TJob, x = sJob a ∧ lJob a := by
 simp only [n17, y0p] at h
 obtain ⟨c0, r0, rfl, h0, c1, r1, rfl, h1, c2, r2, rfl, h2, c3, r3, rfl, h3, c4, r4, rfl, h4, c5, r5, rfl, h5, c6, r6, rfl, h6, c7, r7, rfl, h7, c8, r8, rfl, h8, c9, r9, rfl, h9, rfl⟩ := h
 simp only [inSh] at h0
 obtain ⟨n0, rfl, v0⟩ := h0
 simp only [inSh] at h1
 obtain ⟨n1, rfl, v1⟩ := h1
 obtain ⟨n2, rfl, g2⟩ := t0z d0f c2 h2
 simp only [inSh] at h3
 obtain ⟨n3, rfl, v3⟩ := h3
 simp only [inSh] at h4
 obtain ⟨n4, rfl, v4⟩ := h4
 simp only [inSh] at h5
 obtain ⟨n5, rfl, v5⟩ := h5
 simp only [inSh] at h6
 obtain ⟨n6, rfl, v6⟩ := h6
 obtain ⟨n7, rfl, g7⟩ := t0z n1q c7 h7
 obtain ⟨n8, rfl, g8⟩ := t0z r1o c8 h8
 obtain ⟨n9, rfl, g9⟩ := t0z e1j c9 h9
 refine ⟨⟨n0, n1, n2, ⟨n3, n4, n5, n6, n7, ⟨n8⟩, n9⟩⟩, rfl, ?_⟩
 simp only [lJob, lRun, v1e]
 exact ⟨g2, ⟨g7, g8, g9⟩⟩
end
section
attribute [-simp] z03 z04 z00
def o0u : List Sh := [.i, .i, .s]
theorem b0x (x : List C) (h : y0p o0u x) : ∃ a : TOutcome, x = z0c a ∧ s0y a := by
 simp only [o0u, y0p] at h
 obtain ⟨c0, r0, rfl, h0, c1, r1, rfl, h1, c2, r2, rfl, h2, rfl⟩ := h
 simp only [inSh] at h0
 obtain ⟨n0, rfl, v0⟩ := h0
 simp only [inSh] at h1
 obtain ⟨n1, rfl, v1⟩ := h1
 simp only [inSh] at h2
 obtain ⟨n2, rfl, g2⟩ := h2
 refine ⟨⟨n0, n1, n2⟩, rfl, ?_⟩
 simp only [s0y]
 exact g2
end
section
attribute [-simp] z03 z04 z00
def k01 : List Sh := [.i, .i, .i, .i, .i, .i, .i, .i, .l 10 n17, .l 3 o0u]
theorem x16 (x : List C) (h : y0p k01 x) : ∃ a : TTenant, x = z07 a ∧ r0o a := by
 simp only [k01, y0p] at h
 obtain ⟨c0, r0, rfl, h0, c1, r1, rfl, h1, c2, r2, rfl, h2, c3, r3, rfl, h3, c4, r4, rfl, h4, c5, r5, rfl, h5, c6, r6, rfl, h6, c7, r7, rfl, h7, c8, r8, rfl, h8, c9, r9, rfl, h9, rfl⟩ := h
 simp only [inSh] at h0
 obtain ⟨n0, rfl, v0⟩ := h0
 simp only [inSh] at h1
 obtain ⟨n1, rfl, v1⟩ := h1
 simp only [inSh] at h2
 obtain ⟨n2, rfl, v2⟩ := h2
 simp only [inSh] at h3
 obtain ⟨n3, rfl, v3⟩ := h3
 simp only [inSh] at h4
 obtain ⟨n4, rfl, v4⟩ := h4
 simp only [inSh] at h5
 obtain ⟨n5, rfl, v5⟩ := h5
 simp only [inSh] at h6
 obtain ⟨n6, rfl, v6⟩ := h6
 simp only [inSh] at h7
 obtain ⟨n7, rfl, v7⟩ := h7
 obtain ⟨n8, rfl, g8⟩ := t0z f1k c8 h8
 obtain ⟨n9, rfl, g9⟩ := t0z b0x c9 h9
 refine ⟨⟨n0, n1, n2, n3, n4, n5, n6, n7, n8, n9⟩, rfl, ?_⟩
 simp only [r0o]
 exact ⟨g8, g9⟩
end
section
attribute [-simp] z03 z04 z00
def e0g : List Sh := [.i, .i, .l 1 y1h, .l 2 f0y, .l 10 k01]
theorem t1o (x : List C) (h : y0p e0g x) : ∃ a : THouse, x = z0d a ∧ t0r a := by
 simp only [e0g, y0p] at h
 obtain ⟨c0, r0, rfl, h0, c1, r1, rfl, h1, c2, r2, rfl, h2, c3, r3, rfl, h3, c4, r4, rfl, h4, rfl⟩ := h
 simp only [inSh] at h0
 obtain ⟨n0, rfl, v0⟩ := h0
 simp only [inSh] at h1
 obtain ⟨n1, rfl, v1⟩ := h1
 obtain ⟨n2, rfl, g2⟩ := t0z r1a c2 h2
 obtain ⟨n3, rfl, g3⟩ := t0z u1h c3 h3
 obtain ⟨n4, rfl, g4⟩ := t0z x16 c4 h4
 refine ⟨⟨n0, n1, n2, n3, n4⟩, rfl, ?_⟩
 simp only [t0r]
 exact ⟨g2, g3, g4⟩
end
section
open Go.ChangeShapes Go.WideShapes Go.ChangeAt Go.RowKit Go.Proofs.YtgggibfhgehidaaGreat
theorem q0x : ownKnob Tryz.prog.godebug = none := by kernel_rfl
theorem s0d : laidOutB Tryz.prog = true := by kernel_rfl
theorem s0z (os : Os) (started : os.Started) (H : Type) (enc : TypeId × Value → H) :
 ReturnsInHanded {} Tryz.checked os 11 .any (Rows.fnExactCancelSpec.pre6 enc Tryz.prog Tryz.f11 Rows.fnExactCancelRow.domain false) (Rows.fnExactCancelSpec.post enc Tryz.prog Tryz.f11 false true false false) := by
 refine returnsInHanded_of_change (C := Tryz.checked) q0x started (by kernel_rfl) Tryz.func11
  (ChangeSpec.witness6 (enc := enc) (C := Tryz.checked) false ⟨#[], #[.agg #[.int .i64 0, .int .i64 0, .slice none 0 0, .slice none 0 0, .slice none 0 0], .int .i64 0, .int .i64 0], []⟩ 8 (by kernel_rfl) (by kernel_rfl) (by kernel_rfl) (by kernel_rfl)) ?_
 intro W base args ds gs before hval0 hW hcnd _
 have hval : ∀ (j : Nat) t v, Tryz.f11.params[j]? = some t → args[j]? = some v → Value.okWide Tryz.prog W .any base t v := hval0
 have hW' := hW
 obtain ⟨p, q, hA0, hV, rfl, hfz, hnd⟩ := hW
 have hA : DataW.TrodAll enc Tryz.prog W 0 (fun _ => true) true Tryz.f11.params.toList args.toList ds p := hA0
 rw [Tryz.params11] at hA hval
 obtain ⟨v0, v1, v2, d0, d1, d2, p0, p1, p2, rfl, rfl, rfl, h0, h1, h2⟩ := trodAll_three hA
 obtain ⟨rfl, rfl⟩ := trodVars_none hV
 have hV0 : ∀ (W' : World) (sp : Nat → Bool), DataW.TrodVars enc Tryz.checked.prog W' sp Rows.fnExactCancelSpec.vars ([] : List (DataW H)) [] := fun _ _ => by first | rfl | trivial | exact ⟨rfl, rfl⟩ | exact ⟨_, rfl, rfl⟩
 have hk0 := h0
 have hs0 : shT Tryz.prog 12 75 = some e0g := by kernel_rfl
 obtain ⟨row0, hc0, hr0⟩ := i15 (lc := fun _ => none) Tryz.underlying75 hs0 (hval 0 75 v0 rfl rfl) h0
 obtain ⟨x0, rfl, hl0⟩ := t1o row0 hc0
 obtain ⟨a1, rfl, rfl, rfl, wa1⟩ := open_int Tryz.underlying3 (hval 1 3 v1 rfl rfl) h1
 obtain ⟨a2, rfl, rfl, rfl, wa2⟩ := open_int Tryz.underlying3 (hval 2 3 v2 rfl rfl) h2
 clear hA0 hval0
 simp only [List.append_nil] at hW'
 refine (t1r (h0b x0 hl0 a1 a2) (fun _ _ _ _ h => h.1) W [v0, .int .i64 a1, .int .i64 a2] (by simp [z0d, aI, aS, A.ref, C.ref, x0a]) ⟨_, _, fz, fz, rfl, (z0j _).symm, hr0, ⟨_, _, fz, fz, rfl, (z0j _).symm, ⟨rfl, rfl⟩, ⟨_, _, fz, fz, rfl, (z0j _).symm, ⟨rfl, rfl⟩, ⟨rfl, rfl⟩⟩⟩⟩ rfl).mono fun e W' ⟨he, hw⟩ => ?_
 subst he
 exact ⟨_, rfl, [d0, .lit (.int .i64 a1), .lit (.int .i64 a2)], [], _, [], _, [], by simpa using hW', trodAll_mk1 (shut_bool Tryz.underlying4 true), trodAll_mk3 (Below.trod s0d (by kernel_rfl) (of_decide_eq_true (by kernel_rfl)) hk0 hw (fun x hx => by have := hW'.lt x (by simp [hx]); simpa using this)) (shut_int Tryz.underlying3 wa1) (shut_int Tryz.underlying3 wa2), hV0 _ _, hw.frame _, fun h => by cases h⟩
theorem jf0 : (Rows.fnExactCancelRow.wf (OpenSpec.ofChange Rows.fnExactCancelSpec)) = true := by kernel_rfl
theorem jf1 : (laidOutB Tryz.checked.prog) = true := by kernel_rfl
theorem jf2 : (mapsRowed Tryz.checked.prog) = true := by kernel_rfl
theorem jf3 : (Tryz.f11.params.all (Tryz.checked.prog.readableRec ·)) = true := by kernel_rfl
theorem jf4 : (namedTie Tryz.checked.prog Rows.fnExactCancelRow.named Rows.fnExactCancelSpec.vars) = true := by kernel_rfl
theorem jf5 : ((Rows.fnExactCancelRow.stops == [])) = true := by kernel_rfl
theorem jf6 : ((Tryz.checked.prog.stops == [])) = true := by kernel_rfl
theorem jf7 : ((Rows.fnExactCancelRow.knobs == [])) = true := by kernel_rfl
theorem jf8 : ((Tryz.checked.prog.stopKnobs == [])) = true := by kernel_rfl
theorem jf9 : ((Rows.fnExactCancelRow.inPlace == Tryz.checked.prog.inPlace 11)) = true := by kernel_rfl
theorem jf10 : ((Rows.fnExactCancelRow.unfollowed == Tryz.checked.prog.unfollowed 11)) = true := by kernel_rfl
theorem jf11 : ((Rows.fnExactCancelRow.recurses == Tryz.checked.prog.recurses 11)) = true := by kernel_rfl
theorem jf12 : ((Rows.fnExactCancelRow.named == Tryz.checked.prog.varsNamed 11)) = true := by kernel_rfl
theorem jf13 : ((Rows.fnExactCancelRow.maps == (Tryz.f11.params.toList ++ Rows.fnExactCancelSpec.plain.varTypes Tryz.checked.prog).any (Tryz.checked.prog.mapsRec ·))) = true := by kernel_rfl
theorem jf14 : ((Rows.fnExactCancelRow.ifaces == (Tryz.f11.params.toList ++ Rows.fnExactCancelSpec.plain.varTypes Tryz.checked.prog).any (Tryz.checked.prog.ifacesRec ·))) = true := by kernel_rfl
theorem jf15 : ((Rows.fnExactCancelRow.mapsOut == Tryz.checked.prog.mapsAmong Tryz.f11.resultTypes.toList)) = true := by kernel_rfl
theorem jf16 : ((Rows.fnExactCancelRow.loops == (Tryz.f11.params.toList ++ Rows.fnExactCancelSpec.plain.varTypes Tryz.checked.prog).any (Tryz.checked.prog.loopsFrom ·))) = true := by kernel_rfl
theorem jf17 : ((Rows.fnExactCancelRow.wideKeys == (Tryz.f11.params.toList ++ Rows.fnExactCancelSpec.plain.varTypes Tryz.checked.prog ++ Tryz.f11.resultTypes.toList).any (Tryz.checked.prog.wideKeysFrom ·))) = true := by kernel_rfl
theorem jf18 : (Rows.fnExactCancelSpec.vars.all (Tryz.checked.prog.varReadable ·)) = true := by kernel_rfl
theorem jf19 : (Tryz.f11.resultTypes.all (fun t => Tryz.checked.prog.readableRec t && decide (t < Tryz.checked.prog.types.size))) = true := by kernel_rfl
theorem jf20 : ((Rows.fnExactCancelRow.ifacesOut == Tryz.f11.resultTypes.toList.any (Tryz.checked.prog.ifacesRec ·))) = true := by kernel_rfl
theorem jf21 : ((Rows.fnExactCancelRow.loopsOut == Tryz.f11.resultTypes.toList.any (Tryz.checked.prog.loopsFrom ·))) = true := by kernel_rfl
theorem jf22 : ((Rows.fnExactCancelRow.plainKeys == Tryz.checked.prog.plainKeys)) = true := by kernel_rfl
theorem jf23 : (Rows.fnExactCancelRow.shortTexts.isNone) = true := by kernel_rfl
theorem jf24 : (Tryz.checked.prog.stopsHeard) = true := by kernel_rfl
theorem jf25 : (Tryz.checked.prog.mayEnter) = true := by kernel_rfl
theorem jf26 : ((Rows.fnExactCancelRow.lifted == Tryz.checked.prog.liftsFinal)) = true := by kernel_rfl
theorem jf27 : ((Tryz.checked.prog.make == some Rows.fnExactCancelRow.make)) = true := by kernel_rfl
theorem jf29 : ((Rows.fnExactCancelRow.pinned == Rows.fnExactCancelRow.pinnedBy)) = true := by kernel_rfl
theorem jf30 : ((Rows.fnExactCancelRow.veiled == (Tryz.f11.params.toList ++ Rows.fnExactCancelSpec.plain.varTypes Tryz.checked.prog ++ Tryz.f11.resultTypes.toList).any (Tryz.checked.prog.veiledRec ·))) = true := by kernel_rfl
theorem jf31 : (Rows.fnExactCancelRow.veiledFits Tryz.checked.prog Tryz.f11.params.toList (Tryz.f11.params.toList ++ Rows.fnExactCancelSpec.plain.varTypes Tryz.checked.prog ++ Tryz.f11.resultTypes.toList)) = true := by kernel_rfl
theorem jf : joinedFacts Tryz.checked.prog 11 Tryz.f11 Rows.fnExactCancelSpec Rows.fnExactCancelRow = true := by
 unfold joinedFacts
 simp only [Bool.and_eq_true]
 repeat' apply And.intro
 exact jf0
 exact jf1
 exact jf2
 exact jf3
 exact jf4
 exact jf5
 exact jf6
 exact jf7
 exact jf8
 exact jf9
 exact jf10
 exact jf11
 exact jf12
 exact jf13
 exact jf14
 exact jf15
 exact jf16
 exact jf17
 exact jf18
 exact jf19
 exact jf20
 exact jf21
 exact jf22
 exact jf23
 exact jf24
 exact jf25
 exact jf26
 exact jf27
 ·kernel_rfl
 exact jf29
 exact jf30
 exact jf31
theorem holds_FnExactCancel : Rows.FnExactCancelSaid :=
 OpenClaim.holds_of_wide 11 Tryz.f11 rfl rfl rfl rfl rfl rfl rfl ⟨rfl, rfl, rfl, rfl, rfl⟩ rfl rfl rfl rfl rfl (by kernel_rfl) Tryz.func11 jf
  (of_decide_eq_true (by kernel_rfl)) (by unfold Func.isWrapper; first | (rw [if_pos (by decide +kernel)]; kernel_rfl) | (rw [if_neg (by decide +kernel)]; exact ⟨rfl, rfl⟩))
  (fun os started H enc _ => s0z os started H enc)
#print axioms holds_FnExactCancel
end
end Go.Am
namespace Go.Proofs.YtgggibfhgehidaaGreat
theorem fnExactCancel_holds : Rows.FnExactCancelSaid := Go.Am.holds_FnExactCancel
end Go.Proofs.YtgggibfhgehidaaGreat
