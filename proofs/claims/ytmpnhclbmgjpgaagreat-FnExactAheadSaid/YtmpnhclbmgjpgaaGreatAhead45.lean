/- PROVED: The program tells how much is ahead of a job as the reference does. -/
import Derived.Test.YtmpnhclbmgjpgaaGreatAhead44
import Derived.Test.YtmpnhclbmgjpgaaGreatRows
import Derived.ProofKit
set_option linter.unusedVariables false
set_option linter.unusedSimpArgs false
namespace Go.Am
open Go.Proofs
set_option maxHeartbeats 4000000
set_option maxRecDepth 100000
attribute [-simp] BitVec.toNat_or BitVec.toNat_and BitVec.toNat_ofInt
section
open Go.ChangeShapes Go.WideShapes Go.ChangeAt Go.RowKit Go.Proofs.YtmpnhclbmgjpgaaGreat
theorem n0g:ownKnob Tryz.prog.godebug=none:=by kernel_rfl
theorem q05:laidOutB Tryz.prog=true:=by kernel_rfl
theorem q0s (os:Os) (started:os.Started) (H:Type) (enc:TypeId×Value→H) :
 ReturnsInHanded {} Tryz.checked os 3 .any (Rows.fnExactAheadSpec.pre6 enc Tryz.prog Tryz.f3 Rows.fnExactAheadRow.domain false) (Rows.fnExactAheadSpec.post enc Tryz.prog Tryz.f3 false true false false):=by
 refine returnsInHanded_of_change (C:=Tryz.checked) n0g started (by kernel_rfl) Tryz.func3
  (ChangeSpec.witness6 (enc:=enc) (C:=Tryz.checked) false ⟨#[],#[.agg #[.int .i64 0,.int .i64 0,.slice none 0 0,.slice none 0 0,.slice none 0 0],.int .i64 0,.int .i64 0],[]⟩ 8 (by kernel_rfl) (by kernel_rfl) (by kernel_rfl) (by kernel_rfl)) ?_
 intro W base args ds gs before hval0 hW hcnd _
 have hval: ∀(j:Nat) t v,Tryz.f3.params[j]?=some t→args[j]?=some v→Value.okWide Tryz.prog W .any base t v:=hval0
 have hW':=hW
 obtain⟨p,q,hA0,hV,rfl,hfz,hnd⟩:=hW
 have hA:DataW.TrodAll enc Tryz.prog W 0 (fun _=>true) true Tryz.f3.params.toList args.toList ds p:=hA0
 rw[Tryz.params3] at hA hval
 obtain⟨v0,v1,v2,d0,d1,d2,p0,p1,p2,rfl,rfl,rfl,h0,h1,h2⟩:=trodAll_three hA
 obtain⟨rfl,rfl⟩:=trodVars_none hV
 have hV0: ∀(W':World) (sp:Nat→Bool),DataW.TrodVars enc Tryz.checked.prog W' sp Rows.fnExactAheadSpec.vars ([]:List (DataW H)) []:=fun _ _=>by first | rfl | trivial | exact⟨rfl,rfl⟩ | exact⟨_,rfl,rfl⟩
 have hk0:=h0
 have hs0:shT Tryz.prog 12 26=some c0u:=by kernel_rfl
 obtain⟨row0,hc0,hr0⟩:=g1z (lc:=fun _=>none) Tryz.underlying26 hs0 (hval 0 26 v0 rfl rfl) h0
 obtain⟨x0,rfl,hl0⟩:=q1v row0 hc0
 obtain⟨a1,rfl,rfl,rfl,wa1⟩:=open_int Tryz.underlying3 (hval 1 3 v1 rfl rfl) h1
 obtain⟨a2,rfl,rfl,rfl,wa2⟩:=open_int Tryz.underlying3 (hval 2 3 v2 rfl rfl) h2
 clear hA0 hval0
 simp only[List.append_nil] at hW'
 refine (r16 (c00 x0 hl0 a1 a2) (fun _ _ _ _ h=>h.1) W [v0,.int .i64 a1,.int .i64 a2] (by simp[z0o,aI,aS,A.ref,C.ref,x0f]) ⟨_,_,fz,fz,rfl,(z0g _).symm,hr0,⟨_,_,fz,fz,rfl,(z0g _).symm,⟨rfl,rfl⟩,⟨_,_,fz,fz,rfl,(z0g _).symm,⟨rfl,rfl⟩,⟨rfl,rfl⟩⟩⟩⟩ rfl).mono fun e W' ⟨he,hw⟩=>?_
 subst he
 exact⟨_,rfl,[d0,.lit (.int .i64 a1),.lit (.int .i64 a2)],[],_,[],_,[],by simpa using hW',trodAll_mk1 (shut_bool Tryz.underlying4 true),trodAll_mk3 (Below.trod q05 (by kernel_rfl) (of_decide_eq_true (by kernel_rfl)) hk0 hw (fun x hx=>by have:=hW'.lt x (by simp[hx]); simpa using this)) (shut_int Tryz.underlying3 wa1) (shut_int Tryz.underlying3 wa2),hV0 _ _,hw.frame _,fun h=>by cases h⟩
theorem jf0:(Rows.fnExactAheadRow.wf (OpenSpec.ofChange Rows.fnExactAheadSpec))=true:=by kernel_rfl
theorem jf1:(laidOutB Tryz.checked.prog)=true:=by kernel_rfl
theorem jf2:(mapsRowed Tryz.checked.prog)=true:=by kernel_rfl
theorem jf3:(Tryz.f3.params.all (Tryz.checked.prog.readableRec ·))=true:=by kernel_rfl
theorem jf4:(namedTie Tryz.checked.prog Rows.fnExactAheadRow.named Rows.fnExactAheadSpec.vars)=true:=by kernel_rfl
theorem jf5:((Rows.fnExactAheadRow.stops == []))=true:=by kernel_rfl
theorem jf6:((Tryz.checked.prog.stops == []))=true:=by kernel_rfl
theorem jf7:((Rows.fnExactAheadRow.knobs == []))=true:=by kernel_rfl
theorem jf8:((Tryz.checked.prog.stopKnobs == []))=true:=by kernel_rfl
theorem jf9:((Rows.fnExactAheadRow.inPlace == Tryz.checked.prog.inPlace 3))=true:=by kernel_rfl
theorem jf10:((Rows.fnExactAheadRow.unfollowed == Tryz.checked.prog.unfollowed 3))=true:=by kernel_rfl
theorem jf11:((Rows.fnExactAheadRow.recurses == Tryz.checked.prog.recurses 3))=true:=by kernel_rfl
theorem jf12:((Rows.fnExactAheadRow.named == Tryz.checked.prog.varsNamed 3))=true:=by kernel_rfl
theorem jf13:((Rows.fnExactAheadRow.maps == (Tryz.f3.params.toList ++ Rows.fnExactAheadSpec.plain.varTypes Tryz.checked.prog).any (Tryz.checked.prog.mapsRec ·)))=true:=by kernel_rfl
theorem jf14:((Rows.fnExactAheadRow.ifaces == (Tryz.f3.params.toList ++ Rows.fnExactAheadSpec.plain.varTypes Tryz.checked.prog).any (Tryz.checked.prog.ifacesRec ·)))=true:=by kernel_rfl
theorem jf15:((Rows.fnExactAheadRow.mapsOut == Tryz.checked.prog.mapsAmong Tryz.f3.resultTypes.toList))=true:=by kernel_rfl
theorem jf16:((Rows.fnExactAheadRow.loops == (Tryz.f3.params.toList ++ Rows.fnExactAheadSpec.plain.varTypes Tryz.checked.prog).any (Tryz.checked.prog.loopsFrom ·)))=true:=by kernel_rfl
theorem jf17:((Rows.fnExactAheadRow.wideKeys == (Tryz.f3.params.toList ++ Rows.fnExactAheadSpec.plain.varTypes Tryz.checked.prog ++ Tryz.f3.resultTypes.toList).any (Tryz.checked.prog.wideKeysFrom ·)))=true:=by kernel_rfl
theorem jf18:(Rows.fnExactAheadSpec.vars.all (Tryz.checked.prog.varReadable ·))=true:=by kernel_rfl
theorem jf19:(Tryz.f3.resultTypes.all (fun t=>Tryz.checked.prog.readableRec t && decide (t<Tryz.checked.prog.types.size)))=true:=by kernel_rfl
theorem jf20:((Rows.fnExactAheadRow.ifacesOut == Tryz.f3.resultTypes.toList.any (Tryz.checked.prog.ifacesRec ·)))=true:=by kernel_rfl
theorem jf21:((Rows.fnExactAheadRow.loopsOut == Tryz.f3.resultTypes.toList.any (Tryz.checked.prog.loopsFrom ·)))=true:=by kernel_rfl
theorem jf22:((Rows.fnExactAheadRow.plainKeys == Tryz.checked.prog.plainKeys))=true:=by kernel_rfl
theorem jf23:(Rows.fnExactAheadRow.shortTexts.isNone)=true:=by kernel_rfl
theorem jf24:(Tryz.checked.prog.stopsHeard)=true:=by kernel_rfl
theorem jf25:(Tryz.checked.prog.mayEnter)=true:=by kernel_rfl
theorem jf26:((Rows.fnExactAheadRow.lifted == Tryz.checked.prog.liftsFinal))=true:=by kernel_rfl
theorem jf27:((Tryz.checked.prog.make == some Rows.fnExactAheadRow.make))=true:=by kernel_rfl
theorem jf29:((Rows.fnExactAheadRow.pinned == Rows.fnExactAheadRow.pinnedBy))=true:=by kernel_rfl
theorem jf30:((Rows.fnExactAheadRow.veiled == (Tryz.f3.params.toList ++ Rows.fnExactAheadSpec.plain.varTypes Tryz.checked.prog ++ Tryz.f3.resultTypes.toList).any (Tryz.checked.prog.veiledRec ·)))=true:=by kernel_rfl
theorem jf31:(Rows.fnExactAheadRow.veiledFits Tryz.checked.prog Tryz.f3.params.toList (Tryz.f3.params.toList ++ Rows.fnExactAheadSpec.plain.varTypes Tryz.checked.prog ++ Tryz.f3.resultTypes.toList))=true:=by kernel_rfl
theorem jf:joinedFacts Tryz.checked.prog 3 Tryz.f3 Rows.fnExactAheadSpec Rows.fnExactAheadRow=true:=by
 unfold joinedFacts
 simp only[Bool.and_eq_true]
 repeat' apply And.intro
 exact jf0
 exact jf1
 exact jf2
 exact jf3
 exact jf4
 exact jf5
 exact jf6
 exact jf7
 exact jf8
 exact jf9
 exact jf10
 exact jf11
 exact jf12
 exact jf13
 exact jf14
 exact jf15
 exact jf16
 exact jf17
 exact jf18
 exact jf19
 exact jf20
 exact jf21
 exact jf22
 exact jf23
 exact jf24
 exact jf25
 exact jf26
 exact jf27
 ·kernel_rfl
 exact jf29
 exact jf30
 exact jf31
theorem holds_FnExactAhead:Rows.FnExactAheadSaid:=
 OpenClaim.holds_of_wide 3 Tryz.f3 rfl rfl rfl rfl rfl rfl rfl ⟨rfl,rfl,rfl,rfl,rfl⟩ rfl rfl rfl rfl rfl (by kernel_rfl) Tryz.func3 jf
  (of_decide_eq_true (by kernel_rfl)) (by unfold Func.isWrapper; first | (rw[if_pos (by decide +kernel)]; kernel_rfl) | (rw[if_neg (by decide +kernel)]; exact⟨rfl,rfl⟩))
  (fun os started H enc _=>q0s os started H enc)
#print axioms holds_FnExactAhead
end
end Go.Am
namespace Go.Proofs.YtmpnhclbmgjpgaaGreat
theorem fnExactAhead_holds:Rows.FnExactAheadSaid:=Go.Am.holds_FnExactAhead
end Go.Proofs.YtmpnhclbmgjpgaaGreat
