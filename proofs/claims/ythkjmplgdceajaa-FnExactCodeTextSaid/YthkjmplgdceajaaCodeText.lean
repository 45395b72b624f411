/- PROVED: the Go function FnExactCodeText answers true for every input, and its argument reads afterwards as it read before; no condition. -/
import Derived.Test.YthkjmplgdceajaaAm4
import Derived.Test.YthkjmplgdceajaaRows
import Derived.ProofKit
set_option linter.unusedVariables false
set_option linter.unusedSimpArgs false
namespace Go.Am
open Go.Proofs
-- 44 loop.example/g00485/spec.l1In
def k44 : K :=
 .seq (
  .reg none [⟨(some 6), none, .asn (.c (.bool false))⟩]) (
 .seq (
  .reg none [⟨(some 7), none, .mv (.t 0)⟩,
    ⟨(some 8), none, .mv (.t 1)⟩,
    ⟨(some 9), none, .bin .geq (.t 7) (.t 8)⟩,
    ⟨(some 10), none, .mv (.t 9)⟩,
    ⟨(some 11), (some (10, true)), .mv (.t 0)⟩,
    ⟨(some 12), (some (10, true)), .mv (.t 2)⟩,
    ⟨(some 13), (some (10, true)), .bin .leq (.t 11) (.t 12)⟩,
    ⟨(some 14), none, .pick (.t 10) (.t 13) (.c (.bool false))⟩,
    ⟨(some 6), none, .asn (.t 14)⟩]) (
 .ret))
def r44 : Nat × List RV := (15, [.t 6])
-- 45 loop.example/g00485/impl.inRange
def k45 : K :=
 .seq (
  .reg none [⟨(some 6), none, .asn (.c (.bool false))⟩]) (
 .seq (
  .reg none [⟨(some 7), none, .mv (.t 0)⟩,
    ⟨(some 8), none, .mv (.t 1)⟩,
    ⟨(some 9), none, .bin .geq (.t 7) (.t 8)⟩,
    ⟨(some 10), none, .mv (.t 9)⟩,
    ⟨(some 11), (some (10, true)), .mv (.t 0)⟩,
    ⟨(some 12), (some (10, true)), .mv (.t 2)⟩,
    ⟨(some 13), (some (10, true)), .bin .leq (.t 11) (.t 12)⟩,
    ⟨(some 14), none, .pick (.t 10) (.t 13) (.c (.bool false))⟩,
    ⟨(some 6), none, .asn (.t 14)⟩]) (
 .ret))
def r45 : Nat × List RV := (15, [.t 6])
-- 10 loop.example/g00485/spec.CodeText
def k10 : K :=
 .seq (
  .reg none [⟨(some 2), none, .asn (.c (.str ⟨#[]⟩))⟩]) (
 .seq (
  .reg none [⟨(some 4), none, .bls 9 1 true [(.c (.str ⟨#[100, 111, 110, 101]⟩)), (.c (.str ⟨#[109, 117, 99, 104]⟩)), (.c (.str ⟨#[105, 110, 112, 117, 116]⟩)), (.c (.str ⟨#[103, 114, 97, 109]⟩)), (.c (.str ⟨#[102, 117, 108, 108]⟩)), (.c (.str ⟨#[99, 97, 110, 99, 101, 108]⟩)), (.c (.str ⟨#[98, 117, 100, 103, 101, 116]⟩))]⟩,
    ⟨(some 3), none, .asn (.t 4)⟩]) (
 .seq (
  .seq (
   .reg none [⟨(some 5), none, .mv (.t 0)⟩,
     ⟨(some 6), none, .mv (.t 3)⟩,
     ⟨(some 7), none, .len (.t 6)⟩,
     ⟨(some 8), none, .bin .sub (.t 7) (.c (.int .i64 (1)))⟩,
     ⟨(some 9), none, .call 44 [(.t 5), (.c (.int .i64 (0))), (.t 8)]⟩,
     ⟨(some 10), none, .not (.t 9)⟩]) (
  .cond (.t 10) (
   .seq (
    .reg none [⟨(some 2), none, .asn (.c (.str ⟨#[]⟩))⟩]) (
   .ret)) (
   .skip))) (
 .seq (
  .reg none [⟨(some 11), none, .mv (.t 3)⟩,
    ⟨(some 12), none, .mv (.t 0)⟩,
    ⟨(some 13), none, .iad 1 (.t 11) (.t 12)⟩,
    ⟨(some 14), none, .ld 1 false (.t 13)⟩,
    ⟨(some 2), none, .asn (.t 14)⟩]) (
 .ret))))
def r10 : Nat × List RV := (15, [.t 2])
-- 11 loop.example/g00485/impl.CodeText
def k11 : K :=
 .seq (
  .reg none [⟨(some 2), none, .asn (.c (.str ⟨#[]⟩))⟩]) (
 .seq (
  .seq (
   .reg none [⟨(some 3), none, .mv (.t 0)⟩,
     ⟨(some 4), none, .call 45 [(.t 3), (.c (.int .i64 (0))), (.c (.int .i64 (6)))]⟩,
     ⟨(some 5), none, .not (.t 4)⟩]) (
  .cond (.t 5) (
   .seq (
    .reg none [⟨(some 2), none, .asn (.c (.str ⟨#[]⟩))⟩]) (
   .ret)) (
   .skip))) (
 .seq (
  .reg none [⟨(some 6), none, .bld true [(.str ⟨#[]⟩), (.str ⟨#[]⟩), (.str ⟨#[]⟩), (.str ⟨#[]⟩), (.str ⟨#[]⟩), (.str ⟨#[]⟩), (.str ⟨#[]⟩)] [(0, 1, (.c (.str ⟨#[100, 111, 110, 101]⟩))), (1, 1, (.c (.str ⟨#[109, 117, 99, 104]⟩))), (2, 1, (.c (.str ⟨#[105, 110, 112, 117, 116]⟩))), (3, 1, (.c (.str ⟨#[103, 114, 97, 109]⟩))), (4, 1, (.c (.str ⟨#[102, 117, 108, 108]⟩))), (5, 1, (.c (.str ⟨#[99, 97, 110, 99, 101, 108]⟩))), (6, 1, (.c (.str ⟨#[98, 117, 100, 103, 101, 116]⟩)))]⟩,
    ⟨(some 7), none, .mv (.t 0)⟩,
    ⟨(some 8), none, .idxa 7 1 false (.t 6) (.t 7)⟩,
    ⟨(some 2), none, .asn (.t 8)⟩]) (
 .ret)))
def r11 : Nat × List RV := (9, [.t 2])
-- 3 loop.example/g00485/laws.FnExactCodeText
def k3 : K :=
 .seq (
  .reg none [⟨(some 2), none, .asn (.c (.bool false))⟩]) (
 .seq (
  .reg none [⟨(some 5), none, .mv (.t 0)⟩,
    ⟨(some 6), none, .call 10 [(.t 5)]⟩,
    ⟨(some 3), none, .asn (.t 6)⟩]) (
 .seq (
  .reg none [⟨(some 7), none, .mv (.t 0)⟩,
    ⟨(some 8), none, .call 11 [(.t 7)]⟩,
    ⟨(some 4), none, .asn (.t 8)⟩]) (
 .seq (
  .seq (
   .reg none [⟨(some 9), none, .mv (.t 4)⟩,
     ⟨(some 10), none, .mv (.t 3)⟩,
     ⟨(some 11), none, .bin .neq (.t 9) (.t 10)⟩]) (
  .cond (.t 11) (
   .seq (
    .reg none [⟨(some 2), none, .asn (.c (.bool false))⟩]) (
   .ret)) (
   .skip))) (
 .seq (
  .reg none [⟨(some 2), none, .asn (.c (.bool true))⟩]) (
 .ret)))))
def r3 : Nat × List RV := (12, [.t 2])
noncomputable def TT : List (Nat × TI) := mkT Try.prog (List.range 182)
noncomputable def FF : List Nat := mkF Try.prog (List.range 133)
theorem c44 : cmpS TT FF true (Try.prog.funcs[44]?) = some (r44.1, r44.2, stripK k44) := by kernel_rfl
theorem c45 : cmpS TT FF true (Try.prog.funcs[45]?) = some (r45.1, r45.2, stripK k45) := by kernel_rfl
theorem c10 : cmpS TT FF true (Try.prog.funcs[10]?) = some (r10.1, r10.2, stripK k10) := by kernel_rfl
theorem c11 : cmpS TT FF true (Try.prog.funcs[11]?) = some (r11.1, r11.2, stripK k11) := by kernel_rfl
theorem c3 : cmpS TT FF true (Try.prog.funcs[3]?) = some (r3.1, r3.2, stripK k3) := by kernel_rfl
end Go.Am
namespace Go.Am
open Go.Proofs
attribute [local simp] runV runM ev takeX setT look put del A.aff C.aff affCs dropR A.ref C.ref refCs nameA takeS giveA runBin intBin strBin entry entryFrom keepS resAll resOne storeC storeCs storeX cellsA C.plain shr packR mkA outs lendX lendA lendC lendCs getA storeRows storeParts shrRows shrRow noShA noSh noShRow noShRows
set_option maxHeartbeats 1000000
def inR3 (a b c : Int) : Bool := decide (b ≤ a) && decide (a ≤ c)
def aI (n : Int) : A := .one (.int .i64 n)
def aB (b : Bool) : A := .one (.bool b)
def aS (s : ByteArray) : A := .one (.str s)
attribute [local simp] aI aB aS
theorem run44 (a b c : Int) : CallsF Try.prog 44 [aI a, aI b, aI c] (aB (inR3 a b c)) := by
  refine callF_run (mkT_ok _ _) (mkF_ok _ _) true c44 (by simp [r44]) (by simp) ?_
  unfold k44 r44
  by_cases h : b ≤ a <;> simp [h, inR3]
theorem run45 (a b c : Int) : CallsF Try.prog 45 [aI a, aI b, aI c] (aB (inR3 a b c)) := by
  refine callF_run (mkT_ok _ _) (mkF_ok _ _) true c45 (by simp [r45]) (by simp) ?_
  unfold k45 r45
  by_cases h : b ≤ a <;> simp [h, inR3]
def codeTexts : List ByteArray := [⟨#[100, 111, 110, 101]⟩, ⟨#[109, 117, 99, 104]⟩, ⟨#[105, 110, 112, 117, 116]⟩, ⟨#[103, 114, 97, 109]⟩, ⟨#[102, 117, 108, 108]⟩, ⟨#[99, 97, 110, 99, 101, 108]⟩, ⟨#[98, 117, 100, 103, 101, 116]⟩]
def codeText (k : Int) : ByteArray := if inR3 k 0 6 then codeTexts.getD k.toNat ⟨#[]⟩ else ⟨#[]⟩
theorem seven {a : Int} (h : inR3 a 0 6 = true) : a = 0 ∨ a = 1 ∨ a = 2 ∨ a = 3 ∨ a = 4 ∨ a = 5 ∨ a = 6 := by
  simp [inR3] at h; omega
theorem wrap6 : IntKind.i64.wrap 6 = 6 := by decide
theorem run10 (a : Int) : CallsF Try.prog 10 [aI a] (aS (codeText a)) := by
  refine callF_run (mkT_ok _ _) (mkF_ok _ _) true c10 (by simp [r10]) (by simp) ?_
  unfold k10 r10
  simp
  refine callG_F (run44 _ _ _) (by simp) ?_
  rw [wrap6]
  by_cases h : inR3 a 0 6 = true
  · rcases seven h with rfl | rfl | rfl | rfl | rfl | rfl | rfl <;> simp [h, codeText, codeTexts, viewCs, viewC]
  · simp [h, codeText]
theorem run11 (a : Int) : CallsF Try.prog 11 [aI a] (aS (codeText a)) := by
  refine callF_run (mkT_ok _ _) (mkF_ok _ _) true c11 (by simp [r11]) (by simp) ?_
  unfold k11 r11
  simp
  refine callG_F (run45 _ _ _) (by simp) ?_
  by_cases h : inR3 a 0 6 = true
  · rcases seven h with rfl | rfl | rfl | rfl | rfl | rfl | rfl <;> simp [h, codeText, codeTexts, viewCs, viewC]
  · simp [h, codeText]
theorem run3 (a : Int) : CallsF Try.prog 3 [aI a] (aB true) := by
  refine callF_run (mkT_ok _ _) (mkF_ok _ _) true c3 (by simp [r3]) (by simp) ?_
  unfold k3 r3
  simp
  refine callG_F (run10 _) (by simp) ?_
  simp
  refine callG_F (run11 _) (by simp) ?_
  simp
end Go.Am
namespace Go.Am
open Go.ChangeShapes Go.WideShapes Go.ChangeAt Go.RowKit Go.Proofs Go.Proofs.Ythkjmplgdceajaa

theorem below_of {P : Program} {f : FuncId} {args : List A} {c : C} (h : CallsF P f args (.one c)) (hr : ∀ w N g F, repC w N c g F → g = .bool true) (W : World) (gs : List Value) (hn : ∀ a ∈ args, a.ref inR = false) (ha : repAs W (fun b => b < W.heap.size) (fun _ => none) args gs fz) (hc : c.plain = true) :
    Calls P f gs.toArray W fun e W' => e = .returned (.bool true) ∧ Below W.heap.size W W' := by
  refine (h W (fun b => b < W.heap.size) (fun _ => none) gs fz fz fz ⟨fun _ => Nat.zero_le _, fun b hb => absurd hb (by simp [fz]), fun b hb => ⟨rfl, hb⟩⟩ (fun _ => Nat.le_refl _) hn ha rfl).mono ?_
  rintro e w' ⟨g, r, H', N', lc', F', Fr', Fo', rfl, ⟨rfl, rfl⟩, hB, hr', _, _, _, hF⟩
  exact ⟨by rw [hr _ _ _ _ (plain_repC hc hr')], hF.os, hF.tape, hF.output, hF.size, fun k hk => hF.keep k hk rfl⟩

theorem Try.own : ownKnob Try.prog.godebug = none := by kernel_rfl
theorem Try.laidOut : laidOutB Try.prog = true := by kernel_rfl

set_option maxRecDepth 100000 in
theorem f_lifted (os : Os) (started : os.Started) (H : Type) (enc : TypeId × Value → H) :
    ReturnsInHanded {} Try.checked os 3 .any (Rows.fnExactCodeTextSpec.pre6 enc Try.prog Try.f3 Rows.fnExactCodeTextRow.domain false) (Rows.fnExactCodeTextSpec.post enc Try.prog Try.f3 false true false false) := by
  refine returnsInHanded_of_change (C := Try.checked) Try.own started (by kernel_rfl) Try.func3
    (ChangeSpec.witness6 (enc := enc) (C := Try.checked) false ⟨#[], #[.int .i64 0], []⟩ 8 (by kernel_rfl) (by kernel_rfl) (by kernel_rfl) (by kernel_rfl)) ?_
  intro W base args ds gs before hval0 hW hcnd _
  have hval : ∀ (j : Nat) t v, Try.f3.params[j]? = some t → args[j]? = some v → Value.okWide Try.prog W .any base t v := hval0
  have hW' := hW
  obtain ⟨p, q, hA0, hV, rfl, hfz, hnd⟩ := hW
  have hA : DataW.TrodAll enc Try.prog W 0 (fun _ => true) true Try.f3.params.toList args.toList ds p := hA0
  rw [Try.params3] at hA hval
  obtain ⟨v0, d0, rfl, rfl, h0⟩ := trodAll_one hA
  obtain ⟨rfl, rfl⟩ := trodVars_none hV
  have hV0 : ∀ (W' : World) (sp : Nat → Bool), DataW.TrodVars enc Try.checked.prog W' sp Rows.fnExactCodeTextSpec.vars ([] : List (DataW H)) [] := fun _ _ => by first | rfl | trivial | exact ⟨rfl, rfl⟩ | exact ⟨_, rfl, rfl⟩
  obtain ⟨a, rfl, rfl, rfl, wa⟩ := open_int Try.underlying3 (hval 0 3 v0 rfl rfl) h0
  clear hA0 hval0
  simp only [List.append_nil] at hW'
  refine (below_of (run3 a) (fun _ _ _ _ h => h.1) W [.int .i64 a] (by simp [aI, A.ref, C.ref]) ⟨_, [], fz, fz, rfl, (add_fz _).symm, ⟨rfl, rfl⟩, rfl, rfl⟩ rfl).mono fun e W' ⟨he, hw⟩ => ?_
  subst he
  exact ⟨_, rfl, _, _, _, [], [], [], by simpa using hW', trodAll_mk1 (shut_bool Try.underlying4 true), trodAll_mk1 (shut_int Try.underlying3 wa), hV0 _ _, hw.frame _, fun h => by cases h⟩

theorem f_holds : Rows.FnExactCodeTextSaid :=
  OpenClaim.holds_of_wide 3 Try.f3 rfl rfl rfl rfl rfl rfl rfl ⟨rfl, rfl, rfl, rfl, rfl⟩ rfl rfl rfl rfl rfl (by kernel_rfl) Try.func3 (by kernel_rfl)
    (of_decide_eq_true (by kernel_rfl)) (by unfold Func.isWrapper; first | (rw [if_pos (by decide +kernel)]; kernel_rfl) | (rw [if_neg (by decide +kernel)]; exact ⟨rfl, rfl⟩))
    (fun os started H enc _ => f_lifted os started H enc)
end Go.Am

namespace Go.Proofs.Ythkjmplgdceajaa
theorem fnExactCodeText_holds : Rows.FnExactCodeTextSaid := Go.Am.f_holds
end Go.Proofs.Ythkjmplgdceajaa
#print axioms Go.Proofs.Ythkjmplgdceajaa.fnExactCodeText_holds
