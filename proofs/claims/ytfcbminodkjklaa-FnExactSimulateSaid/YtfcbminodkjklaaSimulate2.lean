/- Text 2 of 3 for FnExactSimulate: codes of the functions that it reaches and their contracts over trees. No condition. -/
import Derived.Test.YtfcbminodkjklaaSimulate1
set_option linter.unusedVariables false
set_option linter.unusedSimpArgs false
-- SpecClose
namespace Go.Am
open Go.Proofs
set_option maxHeartbeats 4000000
set_option maxRecDepth 100000
attribute [-simp] BitVec.toNat_or BitVec.toNat_and BitVec.toNat_ofInt
def cS (b : Bool) (S : List TConf) : C := if b = true then .ar true 96 2 (S.map sConf) else .ar false 0 2 (S.map sConf)
def wkO (bs bw : Bool) (S W : List TConf) (ok : Bool) : Obj := ⟨89, 3, [[cS bs S, cS bw W, .bool ok]]⟩
@[simp] theorem cS_t (S : List TConf) : cS true S = .ar true 96 2 (S.map sConf) := rfl
@[simp] theorem cS_f (S : List TConf) : cS false S = .ar false 0 2 (S.map sConf) := rfl
theorem putR_cS (xs : List TConf) (c : TConf) : putR xs c = cS (!decide (c ∈ xs)) (putC xs c) := by
  unfold putR cS
  by_cases h : c ∈ xs
  · simp [h, putC_old h]
  · simp [h]
-- 56 loop.example/g00485/spec.l11Close
def k_spec_l11Close : K :=
 .seq (
  .reg none [⟨(some 4), none, .box 39 1 (.t 0)⟩]) (
 .seq (
  .seq (
   .reg none [⟨(some 11), none, .mv (.t 1)⟩,
     ⟨(some 12), none, .nil (.t 11)⟩,
     ⟨(some 13), none, .fad 2 (.t 12)⟩,
     ⟨(some 14), none, .ld 1 false (.t 13)⟩,
     ⟨(some 15), none, .not (.t 14)⟩]) (
  .cond (.t 15) (
   .ret) (
   .skip))) (
 .seq (
  .seq (
   .reg none [⟨(some 16), none, .mv (.t 3)⟩,
     ⟨(some 17), none, .len (.t 16)⟩,
     ⟨(some 18), none, .bin .gtr (.t 17) (.c (.int .i64 (200)))⟩]) (
  .cond (.t 18) (
   .seq (
    .reg none [⟨(some 19), none, .mv (.t 1)⟩,
      ⟨(some 20), none, .nil (.t 19)⟩,
      ⟨(some 21), none, .fad 2 (.t 20)⟩,
      ⟨none, none, .st 1 false (.t 21) (.c (.bool false))⟩]) (
   .ret)) (
   .skip))) (
 .seq (
  .seq (
   .reg none [⟨(some 22), none, .mv (.t 3)⟩,
     ⟨(some 23), none, .len (.t 22)⟩,
     ⟨(some 24), none, .bin .eql (.t 23) (.c (.int .i64 (0)))⟩,
     ⟨(some 25), none, .mv (.t 24)⟩,
     ⟨(some 26), (some (25, false)), .mv (.t 3)⟩,
     ⟨(some 27), (some (25, false)), .iad 1 (.t 26) (.c (.int .i64 (0)))⟩,
     ⟨(some 28), (some (25, false)), .ld 1 false (.t 27)⟩,
     ⟨(some 29), (some (25, false)), .bin .lss (.t 28) (.c (.int .i64 (100)))⟩,
     ⟨(some 30), none, .pick (.t 25) (.c (.bool true)) (.t 29)⟩]) (
  .cond (.t 30) (
   .seq (
    .reg none [⟨(some 31), none, .mv (.t 1)⟩,
      ⟨(some 32), none, .mv (.t 1)⟩,
      ⟨(some 33), none, .nil (.t 32)⟩,
      ⟨(some 34), none, .fad 0 (.t 33)⟩,
      ⟨(some 35), none, .ld 1 false (.t 34)⟩,
      ⟨(some 36), none, .mv (.t 2)⟩,
      ⟨(some 37), none, .mv (.t 3)⟩,
      ⟨(some 38), none, .bld false [(.int .i64 (0)), (.ar true 3 1 [])] [(0, 1, (.t 36)), (1, 1, (.t 37))]⟩,
      ⟨(some 39), none, .callz 110 [35] [(.t 35), (.t 38)]⟩,
      ⟨(some 40), none, .nil (.t 31)⟩,
      ⟨(some 41), none, .fad 0 (.t 40)⟩,
      ⟨none, none, .st 1 false (.t 41) (.t 39)⟩]) (
   .seq (
    .reg none [⟨(some 42), none, .mv (.t 1)⟩,
      ⟨(some 43), none, .mv (.t 1)⟩,
      ⟨(some 44), none, .nil (.t 43)⟩,
      ⟨(some 45), none, .fad 0 (.t 44)⟩,
      ⟨(some 46), none, .ld 1 false (.t 45)⟩,
      ⟨(some 47), none, .len (.t 46)⟩,
      ⟨(some 48), none, .bin .leq (.t 47) (.c (.int .i64 (30)))⟩,
      ⟨(some 49), none, .nil (.t 42)⟩,
      ⟨(some 50), none, .fad 2 (.t 49)⟩,
      ⟨none, none, .st 1 false (.t 50) (.t 48)⟩]) (
   .ret))) (
   .skip))) (
 .seq (
  .reg none [⟨(some 51), none, .mv (.t 1)⟩,
    ⟨(some 52), none, .nil (.t 51)⟩,
    ⟨(some 53), none, .fad 1 (.t 52)⟩,
    ⟨(some 54), none, .ld 1 false (.t 53)⟩,
    ⟨(some 55), none, .len (.t 54)⟩,
    ⟨(some 8), none, .asn (.t 55)⟩]) (
 .seq (
  .reg none [⟨(some 56), none, .mv (.t 1)⟩,
    ⟨(some 57), none, .mv (.t 1)⟩,
    ⟨(some 58), none, .nil (.t 57)⟩,
    ⟨(some 59), none, .fad 1 (.t 58)⟩,
    ⟨(some 60), none, .ld 1 false (.t 59)⟩,
    ⟨(some 61), none, .mv (.t 2)⟩,
    ⟨(some 62), none, .mv (.t 3)⟩,
    ⟨(some 63), none, .bld false [(.int .i64 (0)), (.ar true 3 1 [])] [(0, 1, (.t 61)), (1, 1, (.t 62))]⟩,
    ⟨(some 64), none, .callz 110 [60] [(.t 60), (.t 63)]⟩,
    ⟨(some 65), none, .nil (.t 56)⟩,
    ⟨(some 66), none, .fad 1 (.t 65)⟩,
    ⟨none, none, .st 1 false (.t 66) (.t 64)⟩]) (
 .seq (
  .seq (
   .reg none [⟨(some 67), none, .mv (.t 1)⟩,
     ⟨(some 68), none, .nil (.t 67)⟩,
     ⟨(some 69), none, .fad 1 (.t 68)⟩,
     ⟨(some 70), none, .ld 1 false (.t 69)⟩,
     ⟨(some 71), none, .len (.t 70)⟩,
     ⟨(some 72), none, .mv (.t 8)⟩,
     ⟨(some 73), none, .bin .eql (.t 71) (.t 72)⟩]) (
  .cond (.t 73) (
   .ret) (
   .skip))) (
 .seq (
  .seq (
   .reg none [⟨(some 74), none, .mv (.t 1)⟩,
     ⟨(some 75), none, .nil (.t 74)⟩,
     ⟨(some 76), none, .fad 1 (.t 75)⟩,
     ⟨(some 77), none, .ld 1 false (.t 76)⟩,
     ⟨(some 78), none, .len (.t 77)⟩,
     ⟨(some 79), none, .bin .gtr (.t 78) (.c (.int .i64 (200)))⟩]) (
  .cond (.t 79) (
   .seq (
    .reg none [⟨(some 80), none, .mv (.t 1)⟩,
      ⟨(some 81), none, .nil (.t 80)⟩,
      ⟨(some 82), none, .fad 2 (.t 81)⟩,
      ⟨none, none, .st 1 false (.t 82) (.c (.bool false))⟩]) (
   .ret)) (
   .skip))) (
 .seq (
  .drw none 8 [⟨(some 83), none, .fad 0 (.t 4)⟩,
    ⟨(some 84), none, .ld 1 false (.t 83)⟩,
    ⟨(some 85), none, .mv (.t 3)⟩,
    ⟨(some 86), none, .iad 1 (.t 85) (.c (.int .i64 (0)))⟩,
    ⟨(some 87), none, .ld 1 false (.t 86)⟩,
    ⟨(some 88), none, .bin .sub (.t 87) (.c (.int .i64 (100)))⟩,
    ⟨(some 89), none, .iad 1 (.t 84) (.t 88)⟩,
    ⟨(some 90), none, .ld 1 false (.t 89)⟩,
    ⟨(some 9), none, .asn (.t 90)⟩]) (
 .seq (
  .reg none [⟨(some 10), none, .asn (.c (.int .i64 (0)))⟩]) (
 .block 0 (
  .loop (some ([1, 2, 3, 4, 9, 10], [1, 2, 3, 4, 9, 10, 1000])) (
   .seq (
    .seq (
     .reg none [⟨(some 91), none, .mv (.t 10)⟩,
       ⟨(some 92), none, .mv (.t 9)⟩,
       ⟨(some 93), none, .len (.t 92)⟩,
       ⟨(some 94), none, .bin .lss (.t 91) (.t 93)⟩]) (
    .cond (.t 94) (
     .skip) (
     .exit 0))) (
   .seq (
    .block 1 (
     .drw none 0 [⟨(some 97), none, .ld 1 true (.t 4)⟩,
       ⟨(some 98), none, .mv (.t 1)⟩,
       ⟨(some 99), none, .mv (.t 2)⟩,
       ⟨(some 101), none, .mv (.t 9)⟩,
       ⟨(some 102), none, .mv (.t 10)⟩,
       ⟨(some 103), none, .iad 1 (.t 101) (.t 102)⟩,
       ⟨(some 104), none, .ld 1 false (.t 103)⟩,
       ⟨(some 106), none, .mv (.t 3)⟩,
       ⟨(some 107), none, .slc 1 (.t 106) (some (.c (.int .i64 (1)))) none⟩,
       ⟨(some 100), none, .bls 3 1 false []⟩,
       ⟨(some 105), none, .app 3 1 8 false (.t 100) (.t 104)⟩,
       ⟨(some 108), none, .app 3 1 8 false (.t 105) (.t 107)⟩,
       ⟨(some 109), none, .callzr 56 [108] (.t 98) [(.t 97), (.t 98), (.t 99), (.t 108)]⟩])) (
   .reg none [⟨(some 95), none, .mv (.t 10)⟩,
     ⟨(some 96), none, .bin .add (.t 95) (.c (.int .i64 (1)))⟩,
     ⟨(some 10), none, .asn (.t 96)⟩]))))))))))))))
def r_spec_l11Close : Nat × List RV := (110, [])

theorem c_spec_l11Close : cmpS PT PF PA (Try.prog.funcs[56]?) = some (r_spec_l11Close.1, r_spec_l11Close.2, stripK k_spec_l11Close) := by kernel_rfl

theorem h_spec_l11Close_no (g : TGram) (alt : Int) (row : List Int) (S W : List TConf) (bs bw : Bool) :
    CallsB Try.prog 56 [.agg (sGram g), .one (.pt 3 1000 [] 0 0), aI alt, .one (.ar false 0 1 (row.map rI))] (wkO bs bw S W false) (wkO bs bw S W false) (.tup []) := by
  refine PrunA c_spec_l11Close (by simp [r_spec_l11Close]) (by simp) ?_
  unfold k_spec_l11Close r_spec_l11Close
  simp [sGram, wkO]
def ClosP (g : TGram) (init st : List TConf) (k : Nat) (r : A) (H : List (Nat × Obj)) : Prop := ∃ (bs bw : Bool) (S W : List TConf) (ok : Bool), H = [(1000, wkO bs bw S W ok)] ∧ r = .tup [] ∧ Clo g.parts init st S W (!ok) ∧ k ≤ W.length
def ClInv (ps : Parts) (init st ks W2 : List TConf) (al : List (List Int)) (tm0 : Nat → List (Nat × A)) (g1 : Nat × Obj) (n : Nat) (σ : St) : Prop := ∃ (i : Nat) (bs' bw' : Bool) (S' W' : List TConf) (ok' : Bool), i ≤ al.length ∧ n = al.length - i ∧ Clo ps init (st ++ ks.drop i) S' W' (!ok') ∧ W2.length ≤ W'.length ∧ σ = ⟨tm0 i, [g1, (1000, ⟨89, 3, [[cS bs' S', cS bw' W', .bool ok']]⟩)]⟩
theorem h_spec_l11Close (g : TGram) (hg : gramOk g = true) (hw : wGram g < 2 ^ 31) (init : List TConf) (hi : ∀ c ∈ init, c.row.all (symOk g.parts.length) = true) : ∀ (n : Nat) (st : List TConf) (c : TConf) (S W : List TConf) (bs bw ok : Bool),
    Clo g.parts init (st ++ [c]) S W (!ok) → (ok = true → 201 ≤ n + W.length) → c.row.length ≤ 300 →
    CallsA Try.prog 56 [.agg (sGram g), .one (.pt 3 1000 [] 0 0), aI c.alt, .one (.ar false 0 1 (c.row.map rI))] [(1000, wkO bs bw S W ok)] (ClosP g init st W.length) := by
  intro n
  induction n with
  | zero =>
    intro st c S W bs bw ok hC hf hcl
    rcases hC with ⟨h, hP⟩ | ⟨h, hM⟩
    · have : ok = true := by simpa using h
      have := hf this
      have := hP.lw
      omega
    · have : ok = false := by simpa using h
      subst this
      exact (h_spec_l11Close_no g c.alt c.row S W bs bw).mono fun r H ⟨h1, h2⟩ => ⟨bs, bw, S, W, false, h1, h2, .inr ⟨rfl, hM⟩, Nat.le_refl _⟩
  | succ n ih =>
    intro st c S W bs bw ok hC hf hcl
    rcases hC with ⟨h, hP⟩ | ⟨h, hM⟩
    case inr =>
      have : ok = false := by simpa using h
      subst this
      exact (h_spec_l11Close_no g c.alt c.row S W bs bw).mono fun r H ⟨h1, h2⟩ => ⟨bs, bw, S, W, false, h1, h2, .inr ⟨rfl, hM⟩, Nat.le_refl _⟩
    have : ok = true := by simpa using h
    subst this
    clear h
    have hf := hf rfl
    have hls := hP.ls
    have hlw := hP.lw
    have hsym := (hP.rwt c (by simp)).ok hg hi
    have hputS := fun (hl : wConf c < 2 ^ 31) => h_spec_l11Put S c hP.ss (by omega) (fun x hx => by have := hP.lr x (.inl hx); simp only [wConf, wL_w0]; omega) hl
    have hputW := fun (hl : wConf c < 2 ^ 31) => h_spec_l11Put W c hP.sw (by omega) (fun x hx => by have := hP.lr x (.inr hx); simp only [wConf, wL_w0]; omega) hl
    simp only [putR_cS, wConf, wL_w0] at hputS hputW
    have hputS := hputS (by omega)
    have hputW := hputW (by omega)
    have hpl := @gram_row g hg
    have hpa := @gram_alts g hg
    have hgl := gram_len hg
    have hfin : ∀ (bs' bw' : Bool) (S' W' : List TConf) (ok' : Bool), Clo g.parts init st S' W' (!ok') → W.length ≤ W'.length → ClosP g init st W.length (.tup []) [(1000, wkO bs' bw' S' W' ok')] := fun bs' bw' S' W' ok' h1 h2 => ⟨bs', bw', S', W', ok', rfl, rfl, h1, h2⟩
    simp only [wkO] at hfin
    generalize hQ : ClosP g init st W.length = Q at *
    refine PrunA c_spec_l11Close (by simp [r_spec_l11Close]) (by simp) ?_
    unfold k_spec_l11Close r_spec_l11Close
    simp [sGram, wkO]
    by_cases c1 : c.row.length ≤ 200
    case neg =>
      have c1' : (200 : Int) < c.row.length := by omega
      simp [c1']
      exact hfin bs bw S W false (.inr ⟨rfl, hP.noMuch (by omega)⟩) (Nat.le_refl _)
    have c1' : ¬ (200 : Int) < c.row.length := by omega
    have hleaf : opn c = false → Clo g.parts init st (putC S c) W (!decide ((putC S c).length ≤ 30)) := fun ho => by
      by_cases h30 : (putC S c).length ≤ 30
      · simp only [h30, decide_true]; exact .inl ⟨rfl, hP.stepS ho c1 h30⟩
      · simp only [h30, decide_false]; exact .inr ⟨rfl, hP.muchS ho (by omega)⟩
    have hold : c ∈ W → Part g.parts init st S W := fun h => hP.stepOld h
    have hnewM : opn c = true → 200 < (putC W c).length → Much g.parts init S (putC W c) := fun ho h => hP.muchW ho h
    have hnewP : opn c = true → (putC W c).length ≤ 200 → Part g.parts init (st ++ kids g.parts c) S (putC W c) := fun ho h => hP.stepW ho c1 h
    have hpo := @putC_old W c
    have hpn := @putC_new W c
    have hlS : (putC S c).length ≤ S.length + 1 := by rw [putC_len]; split <;> omega
    obtain ⟨alt, row⟩ := c
    simp only at c1' c1 hsym
    simp only [sConf] at hputS hputW
    have hleafT : ∀ (b2 : Bool) (S2 : List TConf), Clo g.parts init st S2 W (!decide (S2.length ≤ 30)) → Q (.tup []) [(1000, ⟨89, 3, [[cS b2 S2, cS bw W, .bool (decide ((S2.length : Int) ≤ 30))]]⟩)] := fun b2 S2 h => by
      have h30 : decide ((S2.length : Int) ≤ 30) = decide (S2.length ≤ 30) := decide_eq_decide.2 (by omega)
      rw [h30]
      exact hfin b2 bw _ _ _ h (Nat.le_refl _)
    cases row with
    | nil =>
      have hf2 := fun b2 => hleafT b2 _ (hleaf rfl)
      generalize (!decide (TConf.mk alt [] ∈ S)) = b2 at *
      generalize putC S ⟨alt, []⟩ = S2 at *
      have hf2 := hf2 b2
      simp
      cases bs <;> simp <;> refine callG_F hputS (by simp) ?_ <;> cases b2 <;> simp <;> exact hf2
    | cons x r =>
      have c1'' : ¬ (200 : Int) < r.length + 1 := by simp at c1'; omega
      have n1 : ¬ (r.length : Int) + 1 = 0 := by omega
      by_cases c2 : x < 100
      · have hf2 := fun b2 => hleafT b2 _ (hleaf (by simp [opn]; omega))
        generalize (!decide (TConf.mk alt (x :: r) ∈ S)) = b2 at *
        generalize putC S ⟨alt, x :: r⟩ = S2 at *
        have hf2 := hf2 b2
        simp [c1'', c2, n1]
        cases bs <;> simp <;> refine callG_F hputS (by simp) ?_ <;> cases b2 <;> simp <;> exact hf2
      · simp [c1'', c2, n1]
        by_cases hm : TConf.mk alt (x :: r) ∈ W
        · have hf2 := hfin bs false S W true (.inl ⟨rfl, hold hm⟩) (Nat.le_refl _)
          simp only [hm, hpo hm, decide_true, Bool.not_true] at hputW
          cases bw <;> simp <;> refine callG_F hputW (by simp) ?_ <;> simp <;> exact hf2
        · have hln := hpn hm
          have ho : opn ⟨alt, x :: r⟩ = true := by simp [opn]; omega
          have hsx : symOk g.parts.length x = true := by simp only [List.all_cons, Bool.and_eq_true] at hsym; exact hsym.1
          obtain ⟨hp1, hp2⟩ := sym_part hsx (by omega)
          have hkd := kids_cons (a := alt) (r := r) hp1 (by omega)
          have hpa := hpa hp1
          have hpl := @hpl _ hp1
          simp only [hm, decide_false, Bool.not_false] at hputW
          generalize putC W ⟨alt, x :: r⟩ = W2 at *
          generalize hkk : kids g.parts ⟨alt, x :: r⟩ = ks at *
          obtain ⟨ps⟩ := g
          simp only at hp1 hkd hpa hpl
          have wx : IntKind.i64.wrap (x - 100) = (prt x : Nat) := by have := sym_lt hgl.2 hsx; rw [wrapI (by omega) (by omega)]; omega
          have q1 : ¬ (W2.length : Int) = W.length := by omega
          generalize prt x = px at *
          generalize hal : ps[px] = al at *
          have hrl : r.length ≤ 199 := by simp at c1; omega
          by_cases c3 : W2.length ≤ 200
          case neg =>
            have c3' : (200 : Int) < W2.length := by omega
            have hf2 := hfin bs true S W2 false (.inr ⟨rfl, hnewM ho (by omega)⟩) (by omega)
            cases bw <;> simp <;> refine callG_F hputW (by simp) ?_ <;> simp [q1, c3'] <;> exact hf2
          have c3' : ¬ (200 : Int) < W2.length := by omega
          have hP2 := hnewP ho c3
          cases bw <;> simp <;> refine callG_F hputW (by simp) ?_ <;> simp [q1, c3', wx, hp1, hal, sISS]
          all_goals
            refine awp_loop (ClInv ps init st ks W2 al (fun i => [(1, .one (.pt 3 1000 [] 0 0)), (2, aI alt), (3, .one (.ar false 0 1 ((x :: r).map rI))), (4, .one (.pt 1 4 [] 0 0)), (9, .one (.ar false 0 1 (al.map sIS))), (10, aI i)]) (4, ⟨39, 1, [[.ar false 0 1 (ps.map sISS)]]⟩)) (al.length) ⟨0, bs, true, S, W2, true, by omega, rfl, .inl ⟨rfl, by simpa using hP2⟩, Nat.le_refl _, by simp [sISS]⟩ ?_
            rintro m σ ⟨i, bs', bw', S', W', ok', hi2, rfl, hC, hW, rfl⟩
            by_cases h : i < al.length
            case neg =>
              have hk : ks.drop i = [] := by rw [hkd]; simp; omega
              rw [hk, List.append_nil] at hC
              have hf2 := hfin bs' bw' S' W' ok' hC (by omega)
              simp [h]
              exact hf2
            have hk : ks.drop i = ⟨alt, al[i] ++ r⟩ :: ks.drop (i + 1) := by
              rw [hkd, List.drop_eq_getElem_cons (by simpa using h)]; simp
            have hlr := (hpl (List.getElem_mem h)).1
            have wi : IntKind.i64.wrap ((i : Int) + 1) = i + 1 := wrapI (by omega) (by omega)
            have hcall := ih (st ++ ks.drop (i + 1)) ⟨alt, al[i] ++ r⟩ S' W' bs' bw' ok' (by
              rcases hC with ⟨h1, h2⟩ | ⟨h1, h2⟩
              · exact .inl ⟨h1, h2.congr (by intro y; rw [hk]; simp only [List.mem_append, List.mem_cons, List.not_mem_nil, or_false]; exact ⟨fun | .inl h => .inl (.inl h) | .inr (.inl h) => .inr h | .inr (.inr h) => .inl (.inr h), fun | .inl (.inl h) => .inl h | .inl (.inr h) => .inr (.inr h) | .inr h => .inr (.inl h)⟩)⟩
              · exact .inr ⟨h1, h2⟩) (fun _ => by omega) (by simp; omega)
            generalize hrw : al[i] = row at *
            have hb1 : row.length ≤ 4294967296 := by omega
            have hb2 : row.length + r.length ≤ 4294967296 := by omega
            have n2 : (1 : Int) ≤ r.length + 1 := by omega
            have hsr : shrRows (row.map rI ++ r.map rI) = row.map rI ++ r.map rI := by rw [← List.map_append, shrs_rI]
            simp only [sGram, List.map_append] at hcall
            simp [h, hrw, sIS, hb1, hb2, n2, hsr]
            refine CallsA.mono hcall ?_
            rintro r1 H1 ⟨bs2, bw2, S3, W3, ok3, rfl, rfl, hC3, hW3⟩
            refine ⟨_, rfl, rfl, rfl, .inl rfl, by simp, ?_⟩
            simp
            exact ⟨al.length - (i + 1), by omega, i + 1, bs2, bw2, S3, W3, ok3, by omega, rfl, hC3, by omega, by simp [wi, wkO]⟩
end Go.Am
-- scrow
namespace Go.Am
open Go.Proofs
set_option maxHeartbeats 4000000
set_option maxRecDepth 100000
attribute [-simp] BitVec.toNat_or BitVec.toNat_and BitVec.toNat_ofInt
attribute [-simp] rConf_len sConf_len shr_rConf shr_sConf shrs_rConf shrs_sConf noSh_rConf mConf_wr mConf_n rIS_len sIS_len shr_rIS shr_sIS shrs_rIS shrs_sIS noSh_rIS rISS_len sISS_len shr_rISS shr_sISS shrs_rISS shrs_sISS noSh_rISS rGram_len sGram_len shr_rGram shr_sGram shrs_rGram shrs_sGram noSh_rGram mGram_wr mGram_n cS_t cS_f
/-! Rows of numbers, truth values and texts, whole -/
theorem viewCs_sc {e id i : Nat} {st : Path} : ∀ {cs : List C} {f : Nat}, scRow cs = true → viewCs e id st i f cs = cs
  | [], _, _ => rfl
  | c :: cs, f, h => by
    simp only [scRow, Bool.and_eq_true] at h
    rw [viewCs, viewCs_sc h.2]
    cases c <;> simp [C.sc] at h <;> rfl
theorem storeCs_sc {fz : Bool} {σ : St} : ∀ {cs : List C}, scRow cs = true → storeCs fz σ cs = some (cs, σ)
  | [], _ => rfl
  | c :: cs, h => by
    simp only [scRow, Bool.and_eq_true] at h
    have : storeC fz σ c = some (c, σ) := by cases c <;> simp [C.sc] at h <;> simp [storeC, giveN, giveA, C.plain, shr]
    rw [storeCs, this]
    simp only [storeCs_sc h.2]
theorem affCs_sc : ∀ {cs : List C}, scRow cs = true → affCs cs = false
  | [], _ => rfl
  | c :: cs, h => by
    simp only [scRow, Bool.and_eq_true] at h
    rw [affCs, affCs_sc h.2, Bool.or_false]
    cases c <;> simp [C.sc] at h <;> rfl
theorem refCs_sc {p : Nat → Path → Bool} : ∀ {cs : List C}, scRow cs = true → refCs p cs = false
  | [], _ => rfl
  | c :: cs, h => by
    simp only [scRow, Bool.and_eq_true] at h
    rw [refCs, refCs_sc h.2, Bool.or_false]
    cases c <;> simp [C.sc] at h <;> rfl
theorem noShRow_sc : ∀ {cs : List C}, scRow cs = true → noShRow cs = true
  | [], _ => rfl
  | c :: cs, h => by
    simp only [scRow, Bool.and_eq_true] at h
    rw [noShRow, noShRow_sc h.2, Bool.and_true]
    cases c <;> simp [C.sc] at h <;> rfl
theorem shrRow_sc : ∀ {cs : List C}, scRow cs = true → shrRow cs = cs
  | [], _ => rfl
  | c :: cs, h => by
    simp only [scRow, Bool.and_eq_true] at h
    rw [shrRow, shrRow_sc h.2]
    cases c <;> simp [C.sc] at h <;> simp [shr]
theorem lendCs_sc {σ : St} : ∀ {cs : List C}, scRow cs = true → lendCs σ cs = some (false, cs)
  | [], _ => rfl
  | c :: cs, h => by
    simp only [scRow, Bool.and_eq_true] at h
    have : lendC σ c = some (false, c) := by cases c <;> simp [C.sc] at h <;> simp [lendC, shr]
    rw [lendCs, this, lendCs_sc h.2]
    rfl
theorem renCs_sc {ρ : Ren} {root : Nat} {σ : St} : ∀ {cs : List C}, scRow cs = true → renCs ρ root σ cs = some (false, cs)
  | [], _ => rfl
  | c :: cs, h => by
    simp only [scRow, Bool.and_eq_true] at h
    have : renC ρ root σ c = some (false, c) := by cases c <;> simp [C.sc] at h <;> simp [renC, lendC, shr]
    rw [renCs, this, renCs_sc h.2]
    rfl
theorem allScal_sc : ∀ {cs : List C}, scRow cs = true → cs.all C.scal = true
  | [], _ => rfl
  | c :: cs, h => by
    simp only [scRow, Bool.and_eq_true] at h
    rw [List.all_cons, allScal_sc h.2, Bool.and_true]
    cases c <;> simp [C.sc] at h <;> rfl
theorem allPlain_sc : ∀ {cs : List C}, scRow cs = true → cs.all C.plain = true
  | [], _ => rfl
  | c :: cs, h => by
    simp only [scRow, Bool.and_eq_true] at h
    rw [List.all_cons, allPlain_sc h.2, Bool.and_true]
    cases c <;> simp [C.sc] at h <;> rfl
theorem cut1 {α : Type} {l : List α} {k : Nat} (h : k < l.length) : (l.drop k).take 1 = [l[k]] := by
  rw [List.drop_eq_getElem_cons h, List.take_succ_cons, List.take_zero]
theorem put1 {α : Type} {l : List α} {k : Nat} {x : α} (h : k < l.length) : l.take k ++ x :: l.drop (k + 1) = l.set k x := by
  rw [List.set_eq_take_append_cons_drop, if_pos h]
end Go.Am
-- flags
namespace Go.Am
open Go.Proofs
set_option maxHeartbeats 4000000
set_option maxRecDepth 100000
attribute [-simp] BitVec.toNat_or BitVec.toNat_and BitVec.toNat_ofInt
attribute [-simp] cS_t cS_f
abbrev aU (f : Nat) : A := .one (.int .u32 f)
abbrev cU (f : Nat) : C := .int .u32 f
theorem wrapU {n : Nat} (h : n < 2 ^ 32) : IntKind.u32.wrap (n : Int) = n := by
  have e : IntKind.u32.wrap (n : Int) = (n : Int) % 4294967296 := by simp [IntKind.wrap, IntKind.bits, IntKind.signed]
  rw [e]; omega
theorem orU {a b : Nat} (ha : a < 2 ^ 32) (hb : b < 2 ^ 32) : IntKind.u32.wrap ((BitVec.ofNat IntKind.u32.bits a ||| BitVec.ofNat IntKind.u32.bits b).toNat : Int) = ((a ||| b : Nat) : Int) := by
  show IntKind.u32.wrap ((BitVec.ofNat 32 a ||| BitVec.ofNat 32 b).toNat : Int) = _
  rw [BitVec.toNat_or, BitVec.toNat_ofNat, BitVec.toNat_ofNat, Nat.mod_eq_of_lt ha, Nat.mod_eq_of_lt hb, wrapU (Nat.or_lt_two_pow ha hb)]
theorem and1 {a : Nat} (ha : a < 2 ^ 32) : IntKind.u32.wrap ((BitVec.ofNat IntKind.u32.bits a &&& 1#IntKind.u32.bits).toNat : Int) = ((a &&& 1 : Nat) : Int) := by
  show IntKind.u32.wrap ((BitVec.ofNat 32 a &&& BitVec.ofNat 32 1).toNat : Int) = _
  rw [BitVec.toNat_and, BitVec.toNat_ofNat, BitVec.toNat_ofNat, Nat.mod_eq_of_lt ha, Nat.mod_eq_of_lt (by omega : 1 < 2 ^ 32), wrapU (Nat.lt_of_le_of_lt Nat.and_le_left ha)]
theorem shrU {f : Nat} {x : Int} (hf : f < 2 ^ 32) (hx : 0 ≤ x) : (f : Int).fdiv (2 ^ min x.toNat IntKind.u32.bits) = ((f >>> x.toNat : Nat) : Int) := by
  show (f : Int).fdiv (2 ^ min x.toNat 32) = _
  rw [Nat.shiftRight_eq_div_pow, Int.fdiv_eq_ediv_of_nonneg _ (Int.le_of_lt (Int.pow_pos (by omega)))]
  by_cases h : x.toNat ≤ 32
  · rw [Nat.min_eq_left h]; simp
  · rw [Nat.min_eq_right (by omega), Nat.div_eq_of_lt (Nat.lt_of_lt_of_le hf (Nat.pow_le_pow_right (by omega) (by omega)))]
    omega
theorem shlU {x : Int} (hx : 0 ≤ x) (hx2 : x < 32) : IntKind.u32.wrap (1 * 2 ^ min x.toNat IntKind.u32.bits) = ((2 ^ x.toNat : Nat) : Int) := by
  show IntKind.u32.wrap (1 * 2 ^ min x.toNat 32) = _
  rw [Nat.min_eq_left (by omega), Int.one_mul]
  have : ((2 : Int) ^ x.toNat) = ((2 ^ x.toNat : Nat) : Int) := by simp
  rw [this, wrapU (Nat.pow_lt_pow_right (by omega) (by omega))]
theorem wrapU64 {n : Int} (h : 0 ≤ n) (h2 : n < 2 ^ 64) : IntKind.u64.wrap n = n := by
  have e : IntKind.u64.wrap n = n % 18446744073709551616 := by simp [IntKind.wrap, IntKind.bits, IntKind.signed]
  rw [e]; omega
theorem bit_and {f x : Nat} : f >>> x &&& 1 = if f.testBit x = true then 1 else 0 := by
  rw [Nat.and_one_is_mod]
  have : f.testBit x = decide (f >>> x % 2 = 1) := by simp [Nat.testBit, Nat.and_comm, Nat.and_one_is_mod]
  rw [this]
  by_cases h : f >>> x % 2 = 1
  · simp [h]
  · simp [h]; omega
-- 149 (loop.example/g00485/impl.flags).has
def k_impl_flags_has : K :=
 .seq (
  .reg none [⟨(some 4), none, .asn (.c (.bool false))⟩]) (
 .seq (
  .reg none [⟨(some 5), none, .mv (.t 0)⟩,
    ⟨(some 6), none, .mv (.t 1)⟩,
    ⟨(some 7), none, .conv .u64 (.t 6)⟩,
    ⟨(some 8), none, .bin .shr (.t 5) (.t 7)⟩,
    ⟨(some 9), none, .bin .and (.t 8) (.c (.int .u32 (1)))⟩,
    ⟨(some 10), none, .bin .eql (.t 9) (.c (.int .u32 (1)))⟩,
    ⟨(some 4), none, .asn (.t 10)⟩]) (
 .ret))
def r_impl_flags_has : Nat × List RV := (11, [.t 4])

theorem c_impl_flags_has : cmpS PT PF PA (Try.prog.funcs[149]?) = some (r_impl_flags_has.1, r_impl_flags_has.2, stripK k_impl_flags_has) := by kernel_rfl

theorem h_has (f : Nat) (x : Int) (hf : f < 2 ^ 32) (hx : 0 ≤ x) (hx2 : x < 2 ^ 63) : CallsF Try.prog 149 [aU f, aI x] (aB (f.testBit x.toNat)) := by
  refine Prun c_impl_flags_has (by simp [r_impl_flags_has]) (by simp) ?_
  unfold k_impl_flags_has r_impl_flags_has
  have w1 : IntKind.u64.wrap x = x := wrapU64 hx (by omega)
  have nx : ¬ x < 0 := by omega
  have hsh : f >>> x.toNat < 2 ^ 32 := Nat.lt_of_le_of_lt (by rw [Nat.shiftRight_eq_div_pow]; exact Nat.div_le_self _ _) hf
  have hy := shrU hf hx
  have hb : f >>> x.toNat &&& 1 = if f.testBit x.toNat = true then 1 else 0 := bit_and
  generalize f >>> x.toNat = y at *
  simp [w1, intShift, nx, hy]
  rw [and1 hsh, hb]
  cases f.testBit x.toNat <;> simp
theorem nulIn_prt {f : Nat} (hf : f < 2 ^ 20) (x : Int) : (decide (100 ≤ x) && f.testBit (prt x)) = (!decide (x < 100) && !decide (120 ≤ x) && f.testBit (x - 100).toNat) := by
  unfold prt
  by_cases h : x < 100
  · have : ¬ 100 ≤ x := by omega
    simp [h, this]
  · have h1 : 100 ≤ x := by omega
    by_cases h2 : 120 ≤ x
    · have : f.testBit (x - 100).toNat = false := Nat.testBit_lt_two_pow (Nat.lt_of_lt_of_le hf (Nat.pow_le_pow_right (by omega) (by omega)))
      simp [h, h1, h2, this]
    · simp [h, h1, h2]
-- 175 loop.example/g00485/impl.emptyIn
def k_impl_emptyIn : K :=
 .seq (
  .reg none [⟨(some 4), none, .asn (.c (.bool false))⟩]) (
 .seq (
  .seq (
   .reg none [⟨(some 7), none, .mv (.t 0)⟩,
     ⟨(some 8), none, .len (.t 7)⟩,
     ⟨(some 9), none, .mv (.c (.int .i64 (0)))⟩]) (
  .block 0 (
   .loop (some ([1, 7, 8, 9], [0, 1, 1000])) (
    .seq (
     .reg none [⟨(some 10), none, .bin .lss (.t 9) (.t 8)⟩]) (
    .seq (
     .cond (.t 10) (
      .skip) (
      .exit 0)) (
    .seq (
     .block 1 (
      .seq (
       .reg none [⟨(some 11), none, .iad 1 (.t 7) (.t 9)⟩,
         ⟨(some 12), none, .ld 1 false (.t 11)⟩,
         ⟨(some 6), none, .asn (.t 12)⟩]) (
      .seq (
       .reg none [⟨(some 13), none, .mv (.t 6)⟩,
         ⟨(some 14), none, .bin .lss (.t 13) (.c (.int .i64 (100)))⟩,
         ⟨(some 15), none, .mv (.t 14)⟩,
         ⟨(some 16), (some (15, false)), .mv (.t 6)⟩,
         ⟨(some 17), (some (15, false)), .bin .geq (.t 16) (.c (.int .i64 (120)))⟩,
         ⟨(some 18), none, .pick (.t 15) (.c (.bool true)) (.t 17)⟩,
         ⟨(some 19), none, .mv (.t 18)⟩,
         ⟨(some 20), (some (19, false)), .mv (.t 1)⟩,
         ⟨(some 21), (some (19, false)), .mv (.t 6)⟩,
         ⟨(some 22), (some (19, false)), .bin .sub (.t 21) (.c (.int .i64 (100)))⟩,
         ⟨(some 23), (some (19, false)), .call 149 [(.t 20), (.t 22)]⟩,
         ⟨(some 24), (some (19, false)), .not (.t 23)⟩,
         ⟨(some 25), none, .pick (.t 19) (.c (.bool true)) (.t 24)⟩]) (
      .cond (.t 25) (
       .seq (
        .reg none [⟨(some 4), none, .asn (.c (.bool false))⟩]) (
       .ret)) (
       .skip))))) (
    .reg none [⟨(some 26), none, .bin .add (.t 9) (.c (.int .i64 (1)))⟩,
      ⟨(some 9), none, .mv (.t 26)⟩]))))))) (
 .seq (
  .reg none [⟨(some 4), none, .asn (.c (.bool true))⟩]) (
 .ret)))
def r_impl_emptyIn : Nat × List RV := (27, [.t 4])

theorem c_impl_emptyIn : cmpS PT PF PA (Try.prog.funcs[175]?) = some (r_impl_emptyIn.1, r_impl_emptyIn.2, stripK k_impl_emptyIn) := by kernel_rfl

theorem h_emptyIn (row : List Int) (f : Nat) (hf : f < 2 ^ 20) (hr : row.length < 2 ^ 63) : CallsF Try.prog 175 [.one (.ar false 0 1 (row.map rI)), aU f] (aB (nulIn f row)) := by
  refine Prun c_impl_emptyIn (by simp [r_impl_emptyIn]) (by simp) ?_
  unfold k_impl_emptyIn r_impl_emptyIn
  simp
  refine awp_loop (fun n σ => ∃ i : Nat, i ≤ row.length ∧ n = row.length - i ∧ nulIn f row = nulIn f (row.drop i) ∧ σ = ⟨[(1, aU f), (7, .one (.ar false 0 1 (row.map rI))), (8, aI row.length), (9, aI i)], []⟩) (row.length) ⟨0, by simp⟩ ?_
  rintro n σ ⟨i, hi, rfl, ht, rfl⟩
  by_cases h : i < row.length
  case neg =>
    unfold nulIn at ht
    rw [all_end h] at ht
    simp [h, nulIn, ht]
  have ht2 := ht
  unfold nulIn at ht2
  rw [all_drop h, nulIn_prt hf] at ht2
  have wi : IntKind.i64.wrap ((i : Int) + 1) = i + 1 := wrapI (by omega) (by omega)
  generalize hx : row[i] = x at *
  simp [h, hx]
  by_cases c1 : x < 100
  · simp [c1] at ht2
    simp [c1, nulIn, ht2]
  by_cases c2 : 120 ≤ x
  · simp [c1, c2] at ht2
    simp [c1, c2, nulIn, ht2]
  have wx : IntKind.i64.wrap (x - 100) = x - 100 := wrapI (by omega) (by omega)
  simp [c1, c2, wx]
  refine callG_F (h_has f (x - 100) (by omega) (by omega) (by omega)) (by simp) ?_
  cases c3 : f.testBit (x - 100).toNat with
  | false => simp [c1, c2, c3] at ht2; simp [c1, c2, nulIn, ht2]
  | true =>
    simp [c1, c2, c3] at ht2
    simp [c1, c2]
    exact ⟨row.length - (i + 1), by omega, i + 1, by omega, rfl, by simpa [nulIn] using ht2, by rw [wi]; simp⟩
-- 178 loop.example/g00485/impl.isProductive
def k_impl_isProductive : K :=
 .seq (
  .reg none [⟨(some 4), none, .asn (.c (.bool false))⟩]) (
 .seq (
  .seq (
   .reg none [⟨(some 7), none, .mv (.t 0)⟩,
     ⟨(some 8), none, .len (.t 7)⟩,
     ⟨(some 9), none, .mv (.c (.int .i64 (0)))⟩]) (
  .block 0 (
   .loop (some ([1, 7, 8, 9], [0, 1, 1000])) (
    .seq (
     .reg none [⟨(some 10), none, .bin .lss (.t 9) (.t 8)⟩]) (
    .seq (
     .cond (.t 10) (
      .skip) (
      .exit 0)) (
    .seq (
     .block 1 (
      .seq (
       .reg none [⟨(some 11), none, .iad 1 (.t 7) (.t 9)⟩,
         ⟨(some 12), none, .ld 1 false (.t 11)⟩,
         ⟨(some 6), none, .asn (.t 12)⟩]) (
      .seq (
       .reg none [⟨(some 13), none, .mv (.t 6)⟩,
         ⟨(some 14), none, .bin .geq (.t 13) (.c (.int .i64 (100)))⟩,
         ⟨(some 15), none, .mv (.t 14)⟩,
         ⟨(some 16), (some (15, true)), .mv (.t 1)⟩,
         ⟨(some 17), (some (15, true)), .mv (.t 6)⟩,
         ⟨(some 18), (some (15, true)), .bin .sub (.t 17) (.c (.int .i64 (100)))⟩,
         ⟨(some 19), (some (15, true)), .call 149 [(.t 16), (.t 18)]⟩,
         ⟨(some 20), (some (15, true)), .not (.t 19)⟩,
         ⟨(some 21), none, .pick (.t 15) (.t 20) (.c (.bool false))⟩]) (
      .cond (.t 21) (
       .seq (
        .reg none [⟨(some 4), none, .asn (.c (.bool false))⟩]) (
       .ret)) (
       .skip))))) (
    .reg none [⟨(some 22), none, .bin .add (.t 9) (.c (.int .i64 (1)))⟩,
      ⟨(some 9), none, .mv (.t 22)⟩]))))))) (
 .seq (
  .reg none [⟨(some 4), none, .asn (.c (.bool true))⟩]) (
 .ret)))
def r_impl_isProductive : Nat × List RV := (23, [.t 4])

theorem c_impl_isProductive : cmpS PT PF PA (Try.prog.funcs[178]?) = some (r_impl_isProductive.1, r_impl_isProductive.2, stripK k_impl_isProductive) := by kernel_rfl

theorem h_isProductive (row : List Int) (f : Nat) (hf : f < 2 ^ 20) (hr : lL l0 row) : CallsF Try.prog 178 [.one (.ar false 0 1 (row.map rI)), aU f] (aB (prdIn f row)) := by
  refine Prun c_impl_isProductive (by simp [r_impl_isProductive]) (by simp) ?_
  unfold k_impl_isProductive r_impl_isProductive
  have hr1 := hr.1
  simp
  refine awp_loop (fun n σ => ∃ i : Nat, i ≤ row.length ∧ n = row.length - i ∧ prdIn f row = prdIn f (row.drop i) ∧ σ = ⟨[(1, aU f), (7, .one (.ar false 0 1 (row.map rI))), (8, aI row.length), (9, aI i)], []⟩) (row.length) ⟨0, by simp⟩ ?_
  rintro n σ ⟨i, hi, rfl, ht, rfl⟩
  by_cases h : i < row.length
  case neg =>
    unfold prdIn at ht
    rw [all_end h] at ht
    simp [h, prdIn, ht]
  have ht2 := ht
  have hri := hr.2 i h
  unfold prdIn at ht2
  rw [all_drop h] at ht2
  have wi : IntKind.i64.wrap ((i : Int) + 1) = i + 1 := wrapI (by omega) (by omega)
  generalize hx : row[i] = x at *
  simp only [l0] at hri
  simp [h, hx]
  by_cases c1 : 100 ≤ x
  case neg =>
    have c1' : x < 100 := by omega
    simp [c1'] at ht2
    simp [c1]
    exact ⟨row.length - (i + 1), by omega, i + 1, by omega, rfl, by simpa [prdIn] using ht2, by rw [wi]; simp⟩
  have c1' : ¬ x < 100 := by omega
  have wx : IntKind.i64.wrap (x - 100) = x - 100 := wrapI (by omega) (by omega)
  simp [c1, wx]
  refine callG_F (h_has f (x - 100) (by omega) (by omega) (by omega)) (by simp) ?_
  cases c3 : f.testBit (x - 100).toNat with
  | false => simp [c1', prt, c3] at ht2; simp [prdIn, prt, ht2]
  | true =>
    simp [c1', prt, c3] at ht2
    simp
    exact ⟨row.length - (i + 1), by omega, i + 1, by omega, rfl, by simpa [prdIn, prt] using ht2, by rw [wi]; simp⟩
end Go.Am
-- growing
namespace Go.Am
open Go.Proofs
set_option maxHeartbeats 4000000
set_option maxRecDepth 100000
attribute [-simp] BitVec.toNat_or BitVec.toNat_and BitVec.toNat_ofInt
attribute [-simp] cS_t cS_f
/-- The least set that a closure leaves as it is. -/
-- 176 loop.example/g00485/impl.growing
def k_impl_growing : K :=
 .seq (
  .reg none [⟨(some 2), none, .asn (.c (.int .u32 (0)))⟩]) (
 .seq (
  .reg none [⟨(some 3), none, .asn (.c (.int .u32 (0)))⟩]) (
 .block 0 (
  .loop (some ([0, 3], [0, 3, 4, 1000])) (
   .block 1 (
    .seq (
     .reg none [⟨(some 5), none, .mv (.t 0)⟩,
       ⟨(some 6), none, .mv (.t 3)⟩,
       ⟨(some 7), none, .callv (.t 5) [(.t 6)]⟩,
       ⟨(some 4), none, .asn (.t 7)⟩]) (
    .seq (
     .seq (
      .reg none [⟨(some 8), none, .mv (.t 4)⟩,
        ⟨(some 9), none, .mv (.t 3)⟩,
        ⟨(some 10), none, .bin .eql (.t 8) (.t 9)⟩]) (
     .cond (.t 10) (
      .seq (
       .reg none [⟨(some 11), none, .mv (.t 3)⟩,
         ⟨(some 2), none, .asn (.t 11)⟩]) (
      .ret)) (
      .skip))) (
    .reg none [⟨(some 12), none, .mv (.t 4)⟩,
      ⟨(some 3), none, .asn (.t 12)⟩])))))))
def r_impl_growing : Nat × List RV := (13, [.t 2])

theorem c_impl_growing : cmpS PT PF PA (Try.prog.funcs[176]?) = some (r_impl_growing.1, r_impl_growing.2, stripK k_impl_growing) := by kernel_rfl

theorem h_growing (fc : Nat) (cap : List C) (p : Nat → Nat) (n : Nat) (hn : n ≤ 20) (hfn : PF.contains fc = true) (hcap : refCs (fun _ _ => true) cap = false) (hg : Grows p n)
    (hc : ∀ f, f < 2 ^ n → CallsF Try.prog fc (aU f :: onesA cap) (aU (p f))) : CallsF Try.prog 176 [.one (.fn fc cap)] (aU (iter p (n + 1) 0)) := by
  refine Prun c_impl_growing (by simp [r_impl_growing]) (by simp) ?_
  unfold k_impl_growing r_impl_growing
  have hok := PfnOk fc hfn
  have hrest := grows_rest hg (Nat.two_pow_pos n : 0 < 2 ^ n)
  have hlt := grows_iter hg (Nat.two_pow_pos n : 0 < 2 ^ n)
  simp
  refine awp_loop (fun m σ => ∃ k : Nat, k ≤ n ∧ m = n + 1 - k ∧ σ = ⟨[(0, .one (.fn fc cap)), (3, aU (iter p k 0))], []⟩) (n + 1) ⟨0, by simp [iter]⟩ ?_
  rintro m σ ⟨k, hk, rfl, rfl⟩
  have hck := hc _ (hlt k)
  have hpk : p (iter p k 0) = iter p (k + 1) 0 := rfl
  have hst : p (iter p k 0) = iter p k 0 → iter p k 0 = iter p (n + 1) 0 := fun h => rest_eq hrest h
  have hne : p (iter p k 0) ≠ iter p k 0 → k < n := fun h => by
    rcases Nat.lt_or_ge k n with h1 | h1
    · exact h1
    · have : k = n := by omega
      subst this; exact absurd hrest h
  generalize iter p k 0 = f at *
  generalize hq : p f = q at *
  simp [callVK_c, hcap, hok]
  refine callSG_F hck (by simp) ?_
  by_cases e : q = f
  · simp [e, hst e]
  · have e' : ¬ (q : Int) = f := by omega
    simp [e']
    exact ⟨n + 1 - (k + 1), by omega, k + 1, by have := hne e; omega, rfl, by rw [hpk]⟩
theorem sh_gram (ps : List (List (List Int))) : refCs (fun _ _ => true) [.ps [.ar false 0 1 (ps.map sISS)]] = false := by simp
theorem setP_lt {p : Nat → List Int → Bool} {n k f : Nat} (hk : k < n) (hf : f < 2 ^ n) (al : List (List Int)) : setP p k al f < 2 ^ n := (setP_grows p hk al f hf).1
theorem setP_drop {p : Nat → List Int → Bool} {k f i : Nat} {al : List (List Int)} (h : i < al.length) : setP p k (al.drop i) f = setP p k (al.drop (i + 1)) (if p f al[i] = true then f ||| 2 ^ k else f) := by
  unfold setP; rw [foldl_drop h]
theorem setP_end {p : Nat → List Int → Bool} {k f i : Nat} {al : List (List Int)} (h : ¬ i < al.length) : setP p k (al.drop i) f = f := by
  unfold setP; rw [foldl_end h]
theorem orK {f k : Nat} (hf : f < 2 ^ 20) (hk : k < 20) : IntKind.u32.wrap ((BitVec.ofInt IntKind.u32.bits (f : Int) ||| BitVec.ofInt IntKind.u32.bits (IntKind.u32.wrap (2 ^ min (IntKind.u64.wrap (k : Int)).toNat IntKind.u32.bits))).toNat : Int) = ((f ||| 2 ^ k : Nat) : Int) := by
  have h1 : IntKind.u64.wrap (k : Int) = k := wrapU64 (by omega) (by omega)
  have h2 := shlU (x := (k : Int)) (by omega) (by omega)
  rw [Int.one_mul] at h2
  rw [h1, h2, Int.toNat_natCast]
  have := orU (a := f) (b := 2 ^ k) (Nat.lt_of_lt_of_le hf (by omega)) (Nat.pow_lt_pow_right (by omega) (by omega))
  rw [← this]
  simp only [BitVec.ofInt_natCast]
-- 196 loop.example/g00485/impl.empties$1
def k_impl_empties_1 : K :=
 .seq (
  .reg none [⟨(some 3), none, .asn (.c (.int .u32 (0)))⟩]) (
 .seq (
  .seq (
   .reg none [⟨(some 8), none, .fad 0 (.t 1)⟩,
     ⟨(some 9), none, .ld 1 false (.t 8)⟩,
     ⟨(some 10), none, .len (.t 9)⟩,
     ⟨(some 11), none, .mv (.c (.int .i64 (0)))⟩]) (
  .block 0 (
   .loop (some ([0, 9, 10, 11], [0, 1000])) (
    .seq (
     .reg none [⟨(some 12), none, .bin .lss (.t 11) (.t 10)⟩]) (
    .seq (
     .cond (.t 12) (
      .skip) (
      .exit 0)) (
    .seq (
     .block 1 (
      .seq (
       .reg none [⟨(some 13), none, .mv (.t 11)⟩,
         ⟨(some 14), none, .iad 1 (.t 9) (.t 11)⟩,
         ⟨(some 15), none, .ld 1 false (.t 14)⟩,
         ⟨(some 4), none, .asn (.t 13)⟩,
         ⟨(some 5), none, .asn (.t 15)⟩]) (
      .seq (
       .reg none [⟨(some 16), none, .mv (.t 5)⟩,
         ⟨(some 17), none, .len (.t 16)⟩,
         ⟨(some 18), none, .mv (.c (.int .i64 (0)))⟩]) (
      .block 2 (
       .loop (some ([0, 4, 9, 10, 11, 16, 17, 18], [0, 4, 5, 1000])) (
        .seq (
         .reg none [⟨(some 19), none, .bin .lss (.t 18) (.t 17)⟩]) (
        .seq (
         .cond (.t 19) (
          .skip) (
          .exit 2)) (
        .seq (
         .block 3 (
          .seq (
           .reg none [⟨(some 20), none, .iad 1 (.t 16) (.t 18)⟩,
             ⟨(some 21), none, .ld 1 false (.t 20)⟩,
             ⟨(some 7), none, .asn (.t 21)⟩]) (
          .seq (
           .reg none [⟨(some 22), none, .mv (.t 7)⟩,
             ⟨(some 23), none, .mv (.t 0)⟩,
             ⟨(some 24), none, .call 175 [(.t 22), (.t 23)]⟩]) (
          .cond (.t 24) (
           .reg none [⟨(some 25), none, .mv (.t 0)⟩,
             ⟨(some 26), none, .mv (.t 4)⟩,
             ⟨(some 27), none, .conv .u64 (.t 26)⟩,
             ⟨(some 28), none, .bin .shl (.c (.int .u32 (1))) (.t 27)⟩,
             ⟨(some 29), none, .bin .or (.t 25) (.t 28)⟩,
             ⟨(some 0), none, .asn (.t 29)⟩]) (
           .skip))))) (
        .reg none [⟨(some 30), none, .bin .add (.t 18) (.c (.int .i64 (1)))⟩,
          ⟨(some 18), none, .mv (.t 30)⟩]))))))))) (
    .reg none [⟨(some 31), none, .bin .add (.t 11) (.c (.int .i64 (1)))⟩,
      ⟨(some 11), none, .mv (.t 31)⟩]))))))) (
 .seq (
  .reg none [⟨(some 32), none, .mv (.t 0)⟩,
    ⟨(some 3), none, .asn (.t 32)⟩]) (
 .ret)))
def r_impl_empties_1 : Nat × List RV := (33, [.t 3])

theorem c_impl_empties_1 : cmpS PT PF PA (Try.prog.funcs[196]?) = some (r_impl_empties_1.1, r_impl_empties_1.2, stripK k_impl_empties_1) := by kernel_rfl

set_option maxRecDepth 200000 in
theorem h_empties1 (ps : List (List (List Int))) (f : Nat) (hn : ps.length ≤ 20) (hf : f < 2 ^ ps.length) (hw : wGram ⟨ps⟩ < 2 ^ 31) :
    CallsF Try.prog 196 [aU f, .one (.ps [.ar false 0 1 (ps.map sISS)])] (aU (passP (setP nulIn) 0 ps f)) := by
  refine Prun c_impl_empties_1 (by simp [r_impl_empties_1]) (by simp) ?_
  unfold k_impl_empties_1 r_impl_empties_1
  simp only [wGram] at hw
  have hln := wL_len (wL (wL w0)) ps
  generalize hT : passP (setP nulIn) 0 ps f = T
  simp
  refine awp_loop (fun n σ => ∃ (i f : Nat), i ≤ ps.length ∧ n = ps.length - i ∧ f < 2 ^ ps.length ∧ passP (setP nulIn) i (ps.drop i) f = T ∧ σ = ⟨[(0, aU f), (9, .one (.ar false 0 1 (ps.map sISS))), (10, aI ps.length), (11, aI i)], []⟩) (ps.length) ⟨0, f, by omega, rfl, hf, by simpa using hT, by simp⟩ ?_
  rintro n σ ⟨i, f, hi, rfl, hf, ht, rfl⟩
  have hf20 : ∀ {f : Nat}, f < 2 ^ ps.length → f < 2 ^ 20 := fun h => Nat.lt_of_lt_of_le h (Nat.pow_le_pow_right (by omega) hn)
  by_cases h : i < ps.length
  case neg =>
    rw [passP_end h] at ht
    simp [h, ht]
  rw [passP_drop h] at ht
  have hwa := wL_get (wL (wL w0)) ps i h
  have wi : IntKind.i64.wrap ((i : Int) + 1) = i + 1 := wrapI (by omega) (by omega)
  generalize hal : ps[i] = al at *
  have hla := wL_len (wL w0) al
  simp [h, hal, sISS]
  generalize hT2 : setP nulIn i al f = T2 at ht
  have hT2f : T2 < 2 ^ ps.length := by rw [← hT2]; exact setP_lt h hf al
  refine awp_loop (fun n σ => ∃ (j f : Nat), j ≤ al.length ∧ n = al.length - j ∧ f < 2 ^ ps.length ∧ setP nulIn i (al.drop j) f = T2 ∧ σ = ⟨[(0, aU f), (4, aI i), (9, .one (.ar false 0 1 (ps.map sISS))), (10, aI ps.length), (11, aI i), (16, .one (.ar false 0 1 (al.map sIS))), (17, aI al.length), (18, aI j)], []⟩) (al.length) ⟨0, f, by omega, rfl, hf, by simpa using hT2, by simp⟩ ?_
  rintro n σ ⟨j, f, hj, rfl, hf, ht2, rfl⟩
  by_cases h2 : j < al.length
  case neg =>
    rw [setP_end h2] at ht2
    subst ht2
    simp [h2]
    exact ⟨ps.length - (i + 1), by omega, i + 1, by omega, rfl, f, hf, ht, by rw [wi]; simp⟩
  rw [setP_drop h2] at ht2
  have hwr := wL_get (wL w0) al j h2
  have wj : IntKind.i64.wrap ((j : Int) + 1) = j + 1 := wrapI (by omega) (by omega)
  generalize hrw : al[j] = row at *
  have hlr := wL_len w0 row
  simp [h2, hrw, sIS]
  refine callG_F (h_emptyIn row f (hf20 hf) (by omega)) (by simp) ?_
  cases c : nulIn f row with
  | false =>
    rw [c] at ht2
    simp
    exact ⟨al.length - (j + 1), by omega, j + 1, by omega, rfl, f, hf, by simpa using ht2, by rw [wj]; simp⟩
  | true =>
    rw [c] at ht2
    have hor := orK (hf20 hf) (show i < 20 by omega)
    have n64 : ¬ IntKind.u64.wrap (i : Int) < 0 := by rw [wrapU64 (by omega) (by omega)]; omega
    simp [intShift, n64, -BitVec.ofInt_natCast, hor]
    exact ⟨al.length - (j + 1), by omega, j + 1, by omega, rfl, f ||| 2 ^ i, or_lt hf h, by simpa using ht2, by rw [wj]; simp⟩
end Go.Am
-- Growing2
namespace Go.Am
open Go.Proofs
set_option maxHeartbeats 4000000
set_option maxRecDepth 100000
attribute [-simp] BitVec.toNat_or BitVec.toNat_and BitVec.toNat_ofInt
attribute [-simp] cS_t cS_f
-- 177 loop.example/g00485/impl.productive$1
def k_impl_productive_1 : K :=
 .seq (
  .reg none [⟨(some 3), none, .asn (.c (.int .u32 (0)))⟩]) (
 .seq (
  .seq (
   .reg none [⟨(some 8), none, .fad 0 (.t 1)⟩,
     ⟨(some 9), none, .ld 1 false (.t 8)⟩,
     ⟨(some 10), none, .len (.t 9)⟩,
     ⟨(some 11), none, .mv (.c (.int .i64 (0)))⟩]) (
  .block 0 (
   .loop (some ([0, 9, 10, 11], [0, 1000])) (
    .seq (
     .reg none [⟨(some 12), none, .bin .lss (.t 11) (.t 10)⟩]) (
    .seq (
     .cond (.t 12) (
      .skip) (
      .exit 0)) (
    .seq (
     .block 1 (
      .seq (
       .reg none [⟨(some 13), none, .mv (.t 11)⟩,
         ⟨(some 14), none, .iad 1 (.t 9) (.t 11)⟩,
         ⟨(some 15), none, .ld 1 false (.t 14)⟩,
         ⟨(some 4), none, .asn (.t 13)⟩,
         ⟨(some 5), none, .asn (.t 15)⟩]) (
      .seq (
       .reg none [⟨(some 16), none, .mv (.t 5)⟩,
         ⟨(some 17), none, .len (.t 16)⟩,
         ⟨(some 18), none, .mv (.c (.int .i64 (0)))⟩]) (
      .block 2 (
       .loop (some ([0, 4, 9, 10, 11, 16, 17, 18], [0, 4, 5, 1000])) (
        .seq (
         .reg none [⟨(some 19), none, .bin .lss (.t 18) (.t 17)⟩]) (
        .seq (
         .cond (.t 19) (
          .skip) (
          .exit 2)) (
        .seq (
         .block 3 (
          .seq (
           .reg none [⟨(some 20), none, .iad 1 (.t 16) (.t 18)⟩,
             ⟨(some 21), none, .ld 1 false (.t 20)⟩,
             ⟨(some 7), none, .asn (.t 21)⟩]) (
          .seq (
           .reg none [⟨(some 22), none, .mv (.t 7)⟩,
             ⟨(some 23), none, .mv (.t 0)⟩,
             ⟨(some 24), none, .call 178 [(.t 22), (.t 23)]⟩]) (
          .cond (.t 24) (
           .reg none [⟨(some 25), none, .mv (.t 0)⟩,
             ⟨(some 26), none, .mv (.t 4)⟩,
             ⟨(some 27), none, .conv .u64 (.t 26)⟩,
             ⟨(some 28), none, .bin .shl (.c (.int .u32 (1))) (.t 27)⟩,
             ⟨(some 29), none, .bin .or (.t 25) (.t 28)⟩,
             ⟨(some 0), none, .asn (.t 29)⟩]) (
           .skip))))) (
        .reg none [⟨(some 30), none, .bin .add (.t 18) (.c (.int .i64 (1)))⟩,
          ⟨(some 18), none, .mv (.t 30)⟩]))))))))) (
    .reg none [⟨(some 31), none, .bin .add (.t 11) (.c (.int .i64 (1)))⟩,
      ⟨(some 11), none, .mv (.t 31)⟩]))))))) (
 .seq (
  .reg none [⟨(some 32), none, .mv (.t 0)⟩,
    ⟨(some 3), none, .asn (.t 32)⟩]) (
 .ret)))
def r_impl_productive_1 : Nat × List RV := (33, [.t 3])

theorem c_impl_productive_1 : cmpS PT PF PA (Try.prog.funcs[177]?) = some (r_impl_productive_1.1, r_impl_productive_1.2, stripK k_impl_productive_1) := by kernel_rfl

set_option maxRecDepth 200000 in
theorem h_productive1 (ps : List (List (List Int))) (f : Nat) (hn : ps.length ≤ 20) (hf : f < 2 ^ ps.length) (hw : wGram ⟨ps⟩ < 2 ^ 31) (hl : lGram ⟨ps⟩) :
    CallsF Try.prog 177 [aU f, .one (.ps [.ar false 0 1 (ps.map sISS)])] (aU (passP (setP prdIn) 0 ps f)) := by
  refine Prun c_impl_productive_1 (by simp [r_impl_productive_1]) (by simp) ?_
  unfold k_impl_productive_1 r_impl_productive_1
  simp only [wGram] at hw
  simp only [lGram] at hl
  have hln := wL_len (wL (wL w0)) ps
  generalize hT : passP (setP prdIn) 0 ps f = T
  simp
  refine awp_loop (fun n σ => ∃ (i f : Nat), i ≤ ps.length ∧ n = ps.length - i ∧ f < 2 ^ ps.length ∧ passP (setP prdIn) i (ps.drop i) f = T ∧ σ = ⟨[(0, aU f), (9, .one (.ar false 0 1 (ps.map sISS))), (10, aI ps.length), (11, aI i)], []⟩) (ps.length) ⟨0, f, by omega, rfl, hf, by simpa using hT, by simp⟩ ?_
  rintro n σ ⟨i, f, hi, rfl, hf, ht, rfl⟩
  have hf20 : ∀ {f : Nat}, f < 2 ^ ps.length → f < 2 ^ 20 := fun h => Nat.lt_of_lt_of_le h (Nat.pow_le_pow_right (by omega) hn)
  by_cases h : i < ps.length
  case neg =>
    rw [passP_end h] at ht
    simp [h, ht]
  rw [passP_drop h] at ht
  have hwa := wL_get (wL (wL w0)) ps i h
  have wi : IntKind.i64.wrap ((i : Int) + 1) = i + 1 := wrapI (by omega) (by omega)
  have hli := hl.2 i h
  generalize hal : ps[i] = al at *
  have hla := wL_len (wL w0) al
  simp [h, hal, sISS]
  generalize hT2 : setP prdIn i al f = T2 at ht
  have hT2f : T2 < 2 ^ ps.length := by rw [← hT2]; exact setP_lt h hf al
  refine awp_loop (fun n σ => ∃ (j f : Nat), j ≤ al.length ∧ n = al.length - j ∧ f < 2 ^ ps.length ∧ setP prdIn i (al.drop j) f = T2 ∧ σ = ⟨[(0, aU f), (4, aI i), (9, .one (.ar false 0 1 (ps.map sISS))), (10, aI ps.length), (11, aI i), (16, .one (.ar false 0 1 (al.map sIS))), (17, aI al.length), (18, aI j)], []⟩) (al.length) ⟨0, f, by omega, rfl, hf, by simpa using hT2, by simp⟩ ?_
  rintro n σ ⟨j, f, hj, rfl, hf, ht2, rfl⟩
  by_cases h2 : j < al.length
  case neg =>
    rw [setP_end h2] at ht2
    subst ht2
    simp [h2]
    exact ⟨ps.length - (i + 1), by omega, i + 1, by omega, rfl, f, hf, ht, by rw [wi]; simp⟩
  rw [setP_drop h2] at ht2
  have hwr := wL_get (wL w0) al j h2
  have wj : IntKind.i64.wrap ((j : Int) + 1) = j + 1 := wrapI (by omega) (by omega)
  have hlj := hli.2 j h2
  generalize hrw : al[j] = row at *
  have hlr := wL_len w0 row
  simp [h2, hrw, sIS]
  refine callG_F (h_isProductive row f (hf20 hf) (hlj)) (by simp) ?_
  cases c : prdIn f row with
  | false =>
    rw [c] at ht2
    simp
    exact ⟨al.length - (j + 1), by omega, j + 1, by omega, rfl, f, hf, by simpa using ht2, by rw [wj]; simp⟩
  | true =>
    rw [c] at ht2
    have hor := orK (hf20 hf) (show i < 20 by omega)
    have n64 : ¬ IntKind.u64.wrap (i : Int) < 0 := by rw [wrapU64 (by omega) (by omega)]; omega
    simp [intShift, n64, -BitVec.ofInt_natCast, hor]
    exact ⟨al.length - (j + 1), by omega, j + 1, by omega, rfl, f ||| 2 ^ i, or_lt hf h, by simpa using ht2, by rw [wj]; simp⟩

theorem rchRow_drop {f i : Nat} {row : List Int} (h : i < row.length) : rchRow f (row.drop i) = rchRow (if 100 ≤ row[i] then f ||| 2 ^ prt row[i] else f) (row.drop (i + 1)) := by
  unfold rchRow; rw [foldl_drop h]
theorem rchRow_end {f i : Nat} {row : List Int} (h : ¬ i < row.length) : rchRow f (row.drop i) = f := by
  unfold rchRow; rw [foldl_end h]
theorem rchRow_lt {f n : Nat} {row : List Int} (hs : ∀ x ∈ row, 100 ≤ x → prt x < n) (hf : f < 2 ^ n) : rchRow f row < 2 ^ n :=
  (foldl_ind (I := fun f => f < 2 ^ n) (R := fun _ _ => True) (fun _ _ => trivial) (fun _ _ _ _ _ => trivial) (fun x f hx hf => by
        by_cases h : 100 ≤ x
        · simp only [h, if_true]; exact ⟨or_lt hf (hs x hx h), trivial⟩
        · simp only [h, if_false]; exact ⟨hf, trivial⟩) hf).1
theorem orX {f : Nat} {x : Int} (hf : f < 2 ^ 20) (hk : 100 ≤ x) (hk2 : prt x < 20) : IntKind.u32.wrap ((BitVec.ofInt IntKind.u32.bits (f : Int) ||| BitVec.ofInt IntKind.u32.bits (IntKind.u32.wrap (2 ^ min (IntKind.u64.wrap (x - 100)).toNat IntKind.u32.bits))).toNat : Int) = ((f ||| 2 ^ prt x : Nat) : Int) := by
  have := orK (k := prt x) hf hk2
  rwa [show ((prt x : Nat) : Int) = x - 100 by unfold prt at *; omega] at this
-- 179 loop.example/g00485/impl.reachable$1
def k_impl_reachable_1 : K :=
 .seq (
  .reg none [⟨(some 3), none, .asn (.c (.int .u32 (0)))⟩]) (
 .seq (
  .reg none [⟨(some 10), none, .mv (.t 0)⟩,
    ⟨(some 11), none, .bin .or (.t 10) (.c (.int .u32 (1)))⟩,
    ⟨(some 0), none, .asn (.t 11)⟩]) (
 .seq (
  .seq (
   .reg none [⟨(some 12), none, .fad 0 (.t 1)⟩,
     ⟨(some 13), none, .ld 1 false (.t 12)⟩,
     ⟨(some 14), none, .len (.t 13)⟩,
     ⟨(some 15), none, .mv (.c (.int .i64 (0)))⟩]) (
  .block 0 (
   .loop (some ([0, 13, 14, 15], [0, 1000])) (
    .seq (
     .reg none [⟨(some 16), none, .bin .lss (.t 15) (.t 14)⟩]) (
    .seq (
     .cond (.t 16) (
      .skip) (
      .exit 0)) (
    .seq (
     .block 1 (
      .seq (
       .reg none [⟨(some 17), none, .mv (.t 15)⟩,
         ⟨(some 18), none, .iad 1 (.t 13) (.t 15)⟩,
         ⟨(some 19), none, .ld 1 false (.t 18)⟩,
         ⟨(some 4), none, .asn (.t 17)⟩,
         ⟨(some 5), none, .asn (.t 19)⟩]) (
      .seq (
       .seq (
        .reg none [⟨(some 20), none, .mv (.t 0)⟩,
          ⟨(some 21), none, .mv (.t 4)⟩,
          ⟨(some 22), none, .call 149 [(.t 20), (.t 21)]⟩,
          ⟨(some 23), none, .not (.t 22)⟩]) (
       .cond (.t 23) (
        .exit 1) (
        .skip))) (
      .seq (
       .reg none [⟨(some 24), none, .mv (.t 5)⟩,
         ⟨(some 25), none, .len (.t 24)⟩,
         ⟨(some 26), none, .mv (.c (.int .i64 (0)))⟩]) (
      .block 2 (
       .loop (some ([0, 13, 14, 15, 24, 25, 26], [0, 5, 1000])) (
        .seq (
         .reg none [⟨(some 27), none, .bin .lss (.t 26) (.t 25)⟩]) (
        .seq (
         .cond (.t 27) (
          .skip) (
          .exit 2)) (
        .seq (
         .block 3 (
          .seq (
           .reg none [⟨(some 28), none, .iad 1 (.t 24) (.t 26)⟩,
             ⟨(some 29), none, .ld 1 false (.t 28)⟩,
             ⟨(some 7), none, .asn (.t 29)⟩]) (
          .seq (
           .reg none [⟨(some 30), none, .mv (.t 7)⟩,
             ⟨(some 31), none, .len (.t 30)⟩,
             ⟨(some 32), none, .mv (.c (.int .i64 (0)))⟩]) (
          .block 4 (
           .loop (some ([0, 13, 14, 15, 24, 25, 26, 30, 31, 32], [0, 5, 7, 1000])) (
            .seq (
             .reg none [⟨(some 33), none, .bin .lss (.t 32) (.t 31)⟩]) (
            .seq (
             .cond (.t 33) (
              .skip) (
              .exit 4)) (
            .seq (
             .block 5 (
              .seq (
               .reg none [⟨(some 34), none, .iad 1 (.t 30) (.t 32)⟩,
                 ⟨(some 35), none, .ld 1 false (.t 34)⟩,
                 ⟨(some 9), none, .asn (.t 35)⟩]) (
              .seq (
               .reg none [⟨(some 36), none, .mv (.t 9)⟩,
                 ⟨(some 37), none, .bin .geq (.t 36) (.c (.int .i64 (100)))⟩]) (
              .cond (.t 37) (
               .reg none [⟨(some 38), none, .mv (.t 0)⟩,
                 ⟨(some 39), none, .mv (.t 9)⟩,
                 ⟨(some 40), none, .bin .sub (.t 39) (.c (.int .i64 (100)))⟩,
                 ⟨(some 41), none, .conv .u64 (.t 40)⟩,
                 ⟨(some 42), none, .bin .shl (.c (.int .u32 (1))) (.t 41)⟩,
                 ⟨(some 43), none, .bin .or (.t 38) (.t 42)⟩,
                 ⟨(some 0), none, .asn (.t 43)⟩]) (
               .skip))))) (
            .reg none [⟨(some 44), none, .bin .add (.t 32) (.c (.int .i64 (1)))⟩,
              ⟨(some 32), none, .mv (.t 44)⟩]))))))))) (
        .reg none [⟨(some 45), none, .bin .add (.t 26) (.c (.int .i64 (1)))⟩,
          ⟨(some 26), none, .mv (.t 45)⟩])))))))))) (
    .reg none [⟨(some 46), none, .bin .add (.t 15) (.c (.int .i64 (1)))⟩,
      ⟨(some 15), none, .mv (.t 46)⟩]))))))) (
 .seq (
  .reg none [⟨(some 47), none, .mv (.t 0)⟩,
    ⟨(some 3), none, .asn (.t 47)⟩]) (
 .ret))))
def r_impl_reachable_1 : Nat × List RV := (48, [.t 3])

theorem c_impl_reachable_1 : cmpS PT PF PA (Try.prog.funcs[179]?) = some (r_impl_reachable_1.1, r_impl_reachable_1.2, stripK k_impl_reachable_1) := by kernel_rfl

set_option maxRecDepth 200000 in
theorem h_reachable1 (ps : List (List (List Int))) (f : Nat) (h0 : 0 < ps.length) (hn : ps.length ≤ 20) (hf : f < 2 ^ ps.length) (hw : wGram ⟨ps⟩ < 2 ^ 31) (hs : symsOk ps.length ps) :
    CallsF Try.prog 179 [aU f, .one (.ps [.ar false 0 1 (ps.map sISS)])] (aU (passP rchP 0 ps (f ||| 1))) := by
  refine Prun c_impl_reachable_1 (by simp [r_impl_reachable_1]) (by simp) ?_
  unfold k_impl_reachable_1 r_impl_reachable_1
  simp only [wGram] at hw
  have hln := wL_len (wL (wL w0)) ps
  have hf20 : ∀ {f : Nat}, f < 2 ^ ps.length → f < 2 ^ 20 := fun h => Nat.lt_of_lt_of_le h (Nat.pow_le_pow_right (by omega) hn)
  have hor1 := orU (a := f) (b := 1) (Nat.lt_of_lt_of_le (hf20 hf) (by omega)) (by omega)
  have hf1 : f ||| 1 < 2 ^ ps.length := or_lt (x := 0) hf h0
  generalize hT : passP rchP 0 ps (f ||| 1) = T
  simp [hor1]
  generalize f ||| 1 = f at *
  refine awp_loop (fun n σ => ∃ (i f : Nat), i ≤ ps.length ∧ n = ps.length - i ∧ f < 2 ^ ps.length ∧ passP rchP i (ps.drop i) f = T ∧ σ = ⟨[(0, aU f), (13, .one (.ar false 0 1 (ps.map sISS))), (14, aI ps.length), (15, aI i)], []⟩) (ps.length) ⟨0, f, by omega, rfl, hf1, by simpa using hT, by simp⟩ ?_
  rintro n σ ⟨i, f, hi, rfl, hf, ht, rfl⟩
  by_cases h : i < ps.length
  case neg =>
    rw [passP_end h] at ht
    simp [h, ht]
  rw [passP_drop h] at ht
  have hwa := wL_get (wL (wL w0)) ps i h
  have wi : IntKind.i64.wrap ((i : Int) + 1) = i + 1 := wrapI (by omega) (by omega)
  have hsa := hs ps[i] (List.getElem_mem h)
  generalize hal : ps[i] = al at *
  have hla := wL_len (wL w0) al
  simp [h, hal, sISS]
  refine callG_F (h_has f i (Nat.lt_of_lt_of_le (hf20 hf) (by omega)) (by omega) (by omega)) (by simp) ?_
  cases c : f.testBit i with
  | false =>
    simp [c]
    exact ⟨ps.length - (i + 1), by omega, i + 1, by omega, rfl, f, hf, by simpa [rchP, c] using ht, by rw [wi]; simp⟩
  | true =>
  simp [c]
  generalize hT2 : rchP i al f = T2 at ht
  have hT2b : al.foldl rchRow f = T2 := by rw [← hT2]; simp [rchP, c]
  clear hT2
  refine awp_loop (fun n σ => ∃ (j f : Nat), j ≤ al.length ∧ n = al.length - j ∧ f < 2 ^ ps.length ∧ (al.drop j).foldl rchRow f = T2 ∧ σ = ⟨[(0, aU f), (13, .one (.ar false 0 1 (ps.map sISS))), (14, aI ps.length), (15, aI i), (24, .one (.ar false 0 1 (al.map sIS))), (25, aI al.length), (26, aI j)], []⟩) (al.length) ⟨0, f, by omega, rfl, hf, by simpa using hT2b, by simp⟩ ?_
  rintro n σ ⟨j, f, hj, rfl, hf, ht2, rfl⟩
  by_cases h2 : j < al.length
  case neg =>
    rw [foldl_end h2] at ht2
    subst ht2
    simp [h2]
    exact ⟨ps.length - (i + 1), by omega, i + 1, by omega, rfl, f, hf, ht, by rw [wi]; simp⟩
  rw [foldl_drop h2] at ht2
  have hwr := wL_get (wL w0) al j h2
  have wj : IntKind.i64.wrap ((j : Int) + 1) = j + 1 := wrapI (by omega) (by omega)
  have hsr := hsa al[j] (List.getElem_mem h2)
  generalize hrw : al[j] = row at *
  have hlr := wL_len w0 row
  simp [h2, hrw, sIS]
  generalize hT3 : rchRow f row = T3 at ht2
  refine awp_loop (fun n σ => ∃ (k f : Nat), k ≤ row.length ∧ n = row.length - k ∧ f < 2 ^ ps.length ∧ rchRow f (row.drop k) = T3 ∧ σ = ⟨[(0, aU f), (13, .one (.ar false 0 1 (ps.map sISS))), (14, aI ps.length), (15, aI i), (24, .one (.ar false 0 1 (al.map sIS))), (25, aI al.length), (26, aI j), (30, .one (.ar false 0 1 (row.map rI))), (31, aI row.length), (32, aI k)], []⟩) (row.length) ⟨0, f, by omega, rfl, hf, by simpa using hT3, by simp⟩ ?_
  rintro n σ ⟨k, f, hk, rfl, hf, ht3, rfl⟩
  by_cases h3 : k < row.length
  case neg =>
    rw [rchRow_end h3] at ht3
    subst ht3
    simp [h3]
    exact ⟨al.length - (j + 1), by omega, j + 1, by omega, rfl, f, hf, ht2, by rw [wj]; simp⟩
  rw [rchRow_drop h3] at ht3
  have wk : IntKind.i64.wrap ((k : Int) + 1) = k + 1 := wrapI (by omega) (by omega)
  have hsx := hsr row[k] (List.getElem_mem h3)
  generalize hx : row[k] = x at *
  simp [h3, hx]
  by_cases c2 : 100 ≤ x
  case neg =>
    rw [if_neg c2] at ht3
    simp [c2]
    exact ⟨row.length - (k + 1), by omega, k + 1, by omega, rfl, f, hf, ht3, by rw [wk]; simp⟩
  rw [if_pos c2] at ht3
  have hpx := hsx c2
  have wx : IntKind.i64.wrap (x - 100) = x - 100 := wrapI (by omega) (by unfold prt at hpx; omega)
  have hor := orX (hf20 hf) c2 (by omega)
  have n64 : ¬ IntKind.u64.wrap (x - 100) < 0 := by rw [wrapU64 (by omega) (by unfold prt at hpx; omega)]; omega
  simp [c2, wx, intShift, n64, -BitVec.ofInt_natCast, hor]
  exact ⟨row.length - (k + 1), by omega, k + 1, by omega, rfl, f ||| 2 ^ prt x, or_lt hf hpx, ht3, by rw [wk]; simp⟩
end Go.Am
-- Growing3
namespace Go.Am
open Go.Proofs
set_option maxHeartbeats 4000000
set_option maxRecDepth 100000
attribute [-simp] BitVec.toNat_or BitVec.toNat_and BitVec.toNat_ofInt
attribute [-simp] cS_t cS_f
theorem symsOk_of {g : TGram} (h : gramOk g = true) : symsOk g.parts.length g.parts := by
  intro al hal row hrow x hx h1
  simp only [gramOk, Bool.and_eq_true] at h
  have h2 := List.all_eq_true.1 h.2 al hal
  simp only [altsOk, Bool.and_eq_true] at h2
  have h3 := List.all_eq_true.1 h2.2 row hrow
  simp only [rowOk, Bool.and_eq_true] at h3
  have h4 := List.all_eq_true.1 h3.2 x hx
  simp only [symOk, Bool.or_eq_true, inr_iff] at h4
  unfold prt; omega
theorem len_of {g : TGram} (h : gramOk g = true) : 0 < g.parts.length ∧ g.parts.length ≤ 20 := by
  simp only [gramOk, Bool.and_eq_true] at h
  have := inr_iff.1 h.1
  omega
-- 174 loop.example/g00485/impl.empties
def k_impl_empties : K :=
 .seq (
  .reg none [⟨(some 1), none, .boxs 1 (.t 0)⟩,
    ⟨(some 2), none, .asn (.c (.int .u32 (0)))⟩]) (
 .seq (
  .reg none [⟨(some 3), none, .mkf 196 [(.t 1)]⟩,
    ⟨(some 4), none, .call 176 [(.t 3)]⟩,
    ⟨(some 2), none, .asn (.t 4)⟩]) (
 .ret))
def r_impl_empties : Nat × List RV := (5, [.t 2])

theorem c_impl_empties : cmpS PT PF PB (Try.prog.funcs[174]?) = some (r_impl_empties.1, r_impl_empties.2, stripK k_impl_empties) := by kernel_rfl

theorem h_empties (g : TGram) (hg : gramOk g = true) (hw : wGram g < 2 ^ 31) : CallsF Try.prog 174 [.agg (sGram g)] (aU (empties g.parts)) := by
  refine PrunBF c_impl_empties (by simp [r_impl_empties]) (by simp) ?_
  unfold k_impl_empties r_impl_empties
  obtain ⟨ps⟩ := g
  have hl := len_of hg
  have := h_growing 196 [.ps [.ar false 0 1 (ps.map sISS)]] (passP (setP nulIn) 0 ps) ps.length hl.2 (by kernel_rfl) (sh_gram ps)
    (passP_grows fun k al hk _ => setP_grows _ hk al) (fun f hf => by simpa using h_empties1 ps f hl.2 hf hw)
  simp [sGram]
  refine callG_F this (by simp) ?_
  simp [empties]
-- 150 loop.example/g00485/impl.productive
def k_impl_productive : K :=
 .seq (
  .reg none [⟨(some 1), none, .boxs 1 (.t 0)⟩,
    ⟨(some 2), none, .asn (.c (.int .u32 (0)))⟩]) (
 .seq (
  .reg none [⟨(some 3), none, .mkf 177 [(.t 1)]⟩,
    ⟨(some 4), none, .call 176 [(.t 3)]⟩,
    ⟨(some 2), none, .asn (.t 4)⟩]) (
 .ret))
def r_impl_productive : Nat × List RV := (5, [.t 2])

theorem c_impl_productive : cmpS PT PF PB (Try.prog.funcs[150]?) = some (r_impl_productive.1, r_impl_productive.2, stripK k_impl_productive) := by kernel_rfl

theorem h_impl_productive (g : TGram) (hg : gramOk g = true) (hw : wGram g < 2 ^ 31) (hlg : lGram g) : CallsF Try.prog 150 [.agg (sGram g)] (aU (prods g.parts)) := by
  refine PrunBF c_impl_productive (by simp [r_impl_productive]) (by simp) ?_
  unfold k_impl_productive r_impl_productive
  obtain ⟨ps⟩ := g
  have hl := len_of hg
  have := h_growing 177 [.ps [.ar false 0 1 (ps.map sISS)]] (passP (setP prdIn) 0 ps) ps.length hl.2 (by kernel_rfl) (sh_gram ps)
    (passP_grows fun k al hk _ => setP_grows _ hk al) (fun f hf => by simpa using h_productive1 ps f hl.2 hf hw hlg)
  simp [sGram]
  refine callG_F this (by simp) ?_
  simp [prods]
theorem rch_iter {ps : List (List (List Int))} (h0 : 0 < ps.length) (hs : symsOk ps.length ps) : ∀ k, iter (fun f => passP rchP 0 ps (f ||| 1)) (k + 1) 0 = iter (passP rchP 0 ps) (k + 1) 1 := by
  have hg : Grows (passP rchP 0 ps) ps.length := passP_grows fun k al hk hm => rchP_grows (hs al hm)
  have h1 : 1 < 2 ^ ps.length := Nat.one_lt_two_pow (by omega)
  have hb : ∀ k, sub 1 (iter (passP rchP 0 ps) k 1) := fun k => by
    induction k with
    | zero => exact sub_refl _
    | succ k ih => exact sub_trans ih (hg _ (grows_iter hg h1 k)).2
  intro k
  induction k with
  | zero => simp [iter]
  | succ k ih =>
    show passP rchP 0 ps (iter (fun f => passP rchP 0 ps (f ||| 1)) (k + 1) 0 ||| 1) = passP rchP 0 ps (iter (passP rchP 0 ps) (k + 1) 1)
    rw [ih]
    congr 1
    apply Nat.eq_of_testBit_eq
    intro i
    rw [Nat.testBit_or]
    cases hi : (1 : Nat).testBit i with
    | false => rw [Bool.or_false]
    | true => rw [hb (k + 1) i hi]; rfl
-- 151 loop.example/g00485/impl.reachable
def k_impl_reachable : K :=
 .seq (
  .reg none [⟨(some 1), none, .boxs 1 (.t 0)⟩,
    ⟨(some 2), none, .asn (.c (.int .u32 (0)))⟩]) (
 .seq (
  .reg none [⟨(some 3), none, .mkf 179 [(.t 1)]⟩,
    ⟨(some 4), none, .call 176 [(.t 3)]⟩,
    ⟨(some 2), none, .asn (.t 4)⟩]) (
 .ret))
def r_impl_reachable : Nat × List RV := (5, [.t 2])

theorem c_impl_reachable : cmpS PT PF PB (Try.prog.funcs[151]?) = some (r_impl_reachable.1, r_impl_reachable.2, stripK k_impl_reachable) := by kernel_rfl

theorem h_impl_reachable (g : TGram) (hg : gramOk g = true) (hw : wGram g < 2 ^ 31) : CallsF Try.prog 151 [.agg (sGram g)] (aU (rchs g.parts)) := by
  refine PrunBF c_impl_reachable (by simp [r_impl_reachable]) (by simp) ?_
  unfold k_impl_reachable r_impl_reachable
  have hs := symsOk_of hg
  obtain ⟨ps⟩ := g
  have hl := len_of hg
  have hgr : Grows (passP rchP 0 ps) ps.length := passP_grows fun k al hk hm => rchP_grows (hs al hm)
  have := h_growing 179 [.ps [.ar false 0 1 (ps.map sISS)]] (fun f => passP rchP 0 ps (f ||| 1)) ps.length hl.2 (by kernel_rfl) (sh_gram ps)
    (fun f hf => ⟨(hgr _ (or_lt (x := 0) hf hl.1)).1, sub_trans (sub_or f 1) (hgr _ (or_lt (x := 0) hf hl.1)).2⟩) (fun f hf => by simpa using h_reachable1 ps f hl.1 hl.2 hf hw hs)
  rw [rch_iter hl.1 hs] at this
  simp [sGram]
  refine callG_F this (by simp) ?_
  simp [rchs]
end Go.Am
-- vecs
namespace Go.Am
open Go.Proofs
set_option maxHeartbeats 4000000
set_option maxRecDepth 100000
attribute [-simp] BitVec.toNat_or BitVec.toNat_and BitVec.toNat_ofInt
attribute [-simp] cS_t cS_f
def VOk (n : Nat) (v : List Nat) : Prop := v.length = n ∧ ∀ k, v.getD k 0 < 2 ^ n
theorem getD_at {v : List Nat} {k : Nat} (h : k < v.length) : v.getD k 0 = v[k] := by simp [List.getD_eq_getElem?_getD, h]
theorem vok_zero (n : Nat) : VOk n (List.replicate n 0) := ⟨by simp, fun k => by
  by_cases h : k < n
  · rw [getD_at (by simpa using h)]; simp [Nat.two_pow_pos]
  · simp [List.getD_eq_getElem?_getD, List.getElem?_eq_none (by simpa using h : (List.replicate n 0).length ≤ k), Nat.two_pow_pos]⟩
theorem vok_upd {n k x : Nat} {v : List Nat} (h : VOk n v) (hk : k < n) (hx : x < n) : VOk n (upd v k x) := by
  refine ⟨by simp [upd, h.1], fun j => ?_⟩
  rw [upd, getD_set (by rw [h.1]; exact hk)]
  split
  · exact Nat.or_lt_two_pow (h.2 k) (Nat.or_lt_two_pow (Nat.pow_lt_pow_right (by omega) hx) (h.2 x))
  · exact h.2 j
theorem vok_row {e n k : Nat} (hk : k < n) : ∀ {row : List Int} {v : List Nat}, (∀ x ∈ row, 100 ≤ x → prt x < n) → VOk n v → VOk n (stRow e k row v)
  | [], _, _, h => h
  | x :: r, v, hs, h => by
    simp only [stRow]
    by_cases hx : 100 ≤ x
    · rw [if_pos hx]
      have h2 := vok_upd h hk (hs x (List.mem_cons_self ..) hx)
      split
      · exact vok_row hk (fun y hy => hs y (List.mem_cons_of_mem _ hy)) h2
      · exact h2
    · rw [if_neg hx]; exact h
theorem vok_P {e n k : Nat} {al : List (List Int)} {v : List Nat} (hk : k < n) (hs : ∀ row ∈ al, ∀ x ∈ row, 100 ≤ x → prt x < n) (h : VOk n v) : VOk n (stP e k al v) :=
  (foldl_ind (I := VOk n) (R := fun _ _ => True) (fun _ _ => trivial) (fun _ _ _ _ _ => trivial) (fun row v hr h => ⟨vok_row hk (hs row hr) h, trivial⟩) h).1
theorem vok_pass {e : Nat} {ps : List (List (List Int))} {v : List Nat} (hs : symsOk ps.length ps) (h : VOk ps.length v) : VOk ps.length (passP (stP e) 0 ps v) :=
  (passP_ind (I := VOk ps.length) (R := fun _ _ => True) (fun _ _ => trivial) (fun _ _ _ _ _ => trivial) (fun j al v _ hj hm h => ⟨vok_P (by omega) (hs al hm) h, trivial⟩) h).1
theorem vok_iter {e : Nat} {ps : List (List (List Int))} (hs : symsOk ps.length ps) : ∀ m, VOk ps.length (iter (passP (stP e) 0 ps) m (List.replicate ps.length 0))
  | 0 => vok_zero _
  | m + 1 => vok_pass hs (vok_iter hs m)
theorem stP_drop {e k i : Nat} {al : List (List Int)} {v : List Nat} (h : i < al.length) : stP e k (al.drop i) v = stP e k (al.drop (i + 1)) (stRow e k al[i] v) := by
  unfold stP; rw [foldl_drop h]
theorem stP_end {e k i : Nat} {al : List (List Int)} {v : List Nat} (h : ¬ i < al.length) : stP e k (al.drop i) v = v := by
  unfold stP; rw [foldl_end h]
theorem stRow_drop {e k j : Nat} {row : List Int} {v : List Nat} (h : j < row.length) : stRow e k (row.drop j) v = if 100 ≤ row[j] then (if e.testBit (prt row[j]) = true then stRow e k (row.drop (j + 1)) (upd v k (prt row[j])) else upd v k (prt row[j])) else v := by
  rw [List.drop_eq_getElem_cons h, stRow]
theorem stRow_end {e k j : Nat} {row : List Int} {v : List Nat} (h : ¬ j < row.length) : stRow e k (row.drop j) v = v := by
  rw [List.drop_eq_nil_of_le (by omega), stRow]
end Go.Am
-- row20
namespace Go.Am
open Go.Proofs
set_option maxHeartbeats 4000000
set_option maxRecDepth 100000
attribute [-simp] BitVec.toNat_or BitVec.toNat_and BitVec.toNat_ofInt
attribute [-simp] cS_t cS_f
/-- Twenty sets in a row. -/
def row20 (v : List Nat) : List C := (List.range 20).map (fun k => cU (v.getD k 0))
@[simp] theorem row20_len (v : List Nat) : (row20 v).length = 20 := by simp [row20]
@[simp] theorem row20_sc (v : List Nat) : scRow (row20 v) = true := by
  unfold row20
  generalize List.range 20 = l
  induction l with
  | nil => rfl
  | cons a l ih => simp only [List.map_cons, scRow, C.sc, ih, Bool.and_self]
@[simp] theorem row20_view (e id i f : Nat) (st : Path) (v : List Nat) : viewCs e id st i f (row20 v) = row20 v := viewCs_sc (row20_sc v)
@[simp] theorem row20_store (fz : Bool) (σ : St) (v : List Nat) : storeCs fz σ (row20 v) = some (row20 v, σ) := storeCs_sc (row20_sc v)
@[simp] theorem row20_aff (v : List Nat) : affCs (row20 v) = false := affCs_sc (row20_sc v)
@[simp] theorem row20_ref (p : Nat → Path → Bool) (v : List Nat) : refCs p (row20 v) = false := refCs_sc (row20_sc v)
@[simp] theorem row20_noSh (v : List Nat) : noShRow (row20 v) = true := noShRow_sc (row20_sc v)
@[simp] theorem row20_shr (v : List Nat) : shrRow (row20 v) = row20 v := shrRow_sc (row20_sc v)
@[simp] theorem row20_lend (σ : St) (v : List Nat) : lendCs σ (row20 v) = some (false, row20 v) := lendCs_sc (row20_sc v)
theorem row20_scal (v : List Nat) : (row20 v).all C.scal = true := allScal_sc (row20_sc v)
theorem row20_plain (v : List Nat) : (row20 v).all C.plain = true := allPlain_sc (row20_sc v)
theorem row20_get {v : List Nat} {k : Nat} (h : k < 20) : ((row20 v).drop k).take 1 = [cU (v.getD k 0)] := by
  rw [cut1 (by simpa using h)]; simp [row20]
@[simp] theorem row20_take (v : List Nat) : (row20 v).take 20 = row20 v := List.take_of_length_le (by simp)
@[simp] theorem row20_drop (v : List Nat) : (row20 v).drop 20 = [] := List.drop_of_length_le (by simp)
theorem row20_set {v : List Nat} {k m : Nat} (h : k < 20) (hv : k < v.length) : (row20 v).take k ++ cU m :: (row20 v).drop (k + 1) = row20 (v.set k m) := by
  rw [put1 (by simpa using h)]
  apply List.ext_getElem
  · simp
  · intro j h1 h2
    have hj : j < 20 := by simpa using h2
    rw [List.getElem_set]
    simp only [row20, List.getElem_map, List.getElem_range]
    rw [getD_set hv]
    by_cases e : k = j
    · simp [e]
    · simp [e, show ¬ j = k by omega]
theorem row20_zero {n : Nat} : row20 (List.replicate n 0) = List.replicate 20 (cU 0) := by
  apply List.ext_getElem
  · simp
  · intro j h1 h2
    simp only [row20, List.getElem_map, List.getElem_replicate]
    congr 2
    by_cases h : j < n
    · rw [getD_at (by simpa using h)]; simp
    · simp [List.getD_eq_getElem?_getD, List.getElem?_eq_none (by simpa using h : (List.replicate n 0).length ≤ j)]
end Go.Am
-- SpecSets
namespace Go.Am
open Go.Proofs
set_option maxHeartbeats 4000000
set_option maxRecDepth 100000
attribute [-simp] BitVec.toNat_or BitVec.toNat_and BitVec.toNat_ofInt
attribute [-simp] cS_t cS_f row20_len row20_sc row20_view row20_store row20_aff row20_ref row20_noSh row20_shr row20_lend row20_take row20_drop
theorem bits_len (f : Nat) : (bitsF f 20).length ≤ 20 := by rw [bitsF_len]; exact pop_le f 20
theorem mem_bits20 {f : Nat} {x : Int} (hf : f < 2 ^ 20) (hx : 0 ≤ x) : decide (x ∈ bitsF f 20) = f.testBit x.toNat := by
  rw [Bool.eq_iff_iff, decide_eq_true_iff, mem_bitsF]
  constructor
  · exact fun h => h.2.2
  · intro h
    have := bit_lt hf h
    exact ⟨hx, by omega, h⟩
/-- SetJoin of two sets of numbers below 20 (or 26). -/
-- 145 loop.example/g00485/spec.SetJoin
def k_spec_SetJoin : K :=
 .seq (
  .reg none [⟨(some 4), none, .asn (.c (.ar true 3 1 []))⟩]) (
 .seq (
  .reg none [⟨(some 7), none, .bls 3 1 false []⟩,
    ⟨(some 8), none, .mv (.t 0)⟩,
    ⟨(some 9), none, .app 3 1 8 false (.t 7) (.t 8)⟩,
    ⟨(some 5), none, .asn (.t 9)⟩]) (
 .seq (
  .seq (
   .reg none [⟨(some 6), none, .asn (.c (.int .i64 (0)))⟩]) (
  .block 0 (
   .loop (some ([1, 5, 6], [1, 5, 6, 1000])) (
    .seq (
     .seq (
      .reg none [⟨(some 10), none, .mv (.t 6)⟩,
        ⟨(some 11), none, .mv (.t 1)⟩,
        ⟨(some 12), none, .len (.t 11)⟩,
        ⟨(some 13), none, .bin .lss (.t 10) (.t 12)⟩]) (
     .cond (.t 13) (
      .skip) (
      .exit 0))) (
    .seq (
     .block 1 (
      .reg none [⟨(some 16), none, .mv (.t 5)⟩,
        ⟨(some 17), none, .mv (.t 1)⟩,
        ⟨(some 18), none, .mv (.t 6)⟩,
        ⟨(some 19), none, .iad 1 (.t 17) (.t 18)⟩,
        ⟨(some 20), none, .ld 1 false (.t 19)⟩,
        ⟨(some 21), none, .call 129 [(.t 16), (.t 20)]⟩,
        ⟨(some 5), none, .asn (.t 21)⟩])) (
    .reg none [⟨(some 14), none, .mv (.t 6)⟩,
      ⟨(some 15), none, .bin .add (.t 14) (.c (.int .i64 (1)))⟩,
      ⟨(some 6), none, .asn (.t 15)⟩])))))) (
 .seq (
  .reg none [⟨(some 22), none, .mv (.t 5)⟩,
    ⟨(some 4), none, .asn (.t 22)⟩]) (
 .ret))))
def r_spec_SetJoin : Nat × List RV := (23, [.t 4])

theorem c_spec_SetJoin : cmpS PT PF PA (Try.prog.funcs[145]?) = some (r_spec_SetJoin.1, r_spec_SetJoin.2, stripK k_spec_SetJoin) := by kernel_rfl

theorem h_spec_SetJoin (xs ys : List Int) (hx : xs.length < 2 ^ 30) (hy : ys.length < 2 ^ 30) : CallsF Try.prog 145 [.one (.ar false 0 1 (xs.map rI)), .one (.ar false 0 1 (ys.map rI))] (.one (.ar true 3 1 ((ys.foldl setAdd xs).map rI))) := by
  refine Prun c_spec_SetJoin (by simp [r_spec_SetJoin]) (by simp) ?_
  unfold k_spec_SetJoin r_spec_SetJoin
  have hbN : xs.length ≤ 4294967296 := by omega
  generalize hT : ys.foldl setAdd xs = T
  simp [hbN]
  refine awp_loop (fun n σ => ∃ (i : Nat) (zs : List Int), i ≤ ys.length ∧ n = ys.length - i ∧ zs.length ≤ xs.length + i ∧ (ys.drop i).foldl setAdd zs = T ∧ σ = ⟨[(1, .one (.ar false 0 1 (ys.map rI))), (5, .one (.vw 3 1 5 [] 0 zs.length)), (6, aI i)], [(5, ⟨3, 1, zs.map rI⟩)]⟩) (ys.length) ⟨0, xs, by omega, rfl, by omega, by simpa using hT, by simp⟩ ?_
  rintro n σ ⟨i, zs, hi, rfl, hz, ht, rfl⟩
  by_cases h : i < ys.length
  case neg =>
    rw [foldl_end h] at ht
    subst ht
    simp [h]
  rw [foldl_drop h] at ht
  have wi : IntKind.i64.wrap ((i : Int) + 1) = i + 1 := wrapI (by omega) (by omega)
  have hl := setAdd_len zs ys[i]
  simp [h]
  refine callG_F (h_spec_SetAdd zs ys[i] (by omega)) (by simp) ?_
  simp
  exact ⟨ys.length - (i + 1), by omega, i + 1, by omega, rfl, _, by omega, ht, by simp [wi]⟩
-- 173 loop.example/g00485/spec.l5All
def k_spec_l5All : K :=
 .seq (
  .reg none [⟨(some 4), none, .asn (.c (.bool false))⟩]) (
 .seq (
  .seq (
   .reg none [⟨(some 5), none, .asn (.c (.int .i64 (0)))⟩]) (
  .block 0 (
   .loop (some ([0, 1, 5], [0, 1, 5, 1000])) (
    .seq (
     .seq (
      .reg none [⟨(some 6), none, .mv (.t 5)⟩,
        ⟨(some 7), none, .mv (.t 0)⟩,
        ⟨(some 8), none, .len (.t 7)⟩,
        ⟨(some 9), none, .bin .lss (.t 6) (.t 8)⟩]) (
     .cond (.t 9) (
      .skip) (
      .exit 0))) (
    .seq (
     .block 1 (
      .seq (
       .reg none [⟨(some 12), none, .mv (.t 0)⟩,
         ⟨(some 13), none, .mv (.t 5)⟩,
         ⟨(some 14), none, .iad 1 (.t 12) (.t 13)⟩,
         ⟨(some 15), none, .ld 1 false (.t 14)⟩,
         ⟨(some 16), none, .bin .lss (.t 15) (.c (.int .i64 (100)))⟩,
         ⟨(some 17), none, .mv (.t 16)⟩,
         ⟨(some 18), (some (17, false)), .mv (.t 1)⟩,
         ⟨(some 19), (some (17, false)), .mv (.t 0)⟩,
         ⟨(some 20), (some (17, false)), .mv (.t 5)⟩,
         ⟨(some 21), (some (17, false)), .iad 1 (.t 19) (.t 20)⟩,
         ⟨(some 22), (some (17, false)), .ld 1 false (.t 21)⟩,
         ⟨(some 23), (some (17, false)), .bin .sub (.t 22) (.c (.int .i64 (100)))⟩,
         ⟨(some 24), (some (17, false)), .call 107 [(.t 18), (.t 23)]⟩,
         ⟨(some 25), (some (17, false)), .not (.t 24)⟩,
         ⟨(some 26), none, .pick (.t 17) (.c (.bool true)) (.t 25)⟩]) (
      .cond (.t 26) (
       .seq (
        .reg none [⟨(some 4), none, .asn (.c (.bool false))⟩]) (
       .ret)) (
       .skip)))) (
    .reg none [⟨(some 10), none, .mv (.t 5)⟩,
      ⟨(some 11), none, .bin .add (.t 10) (.c (.int .i64 (1)))⟩,
      ⟨(some 5), none, .asn (.t 11)⟩])))))) (
 .seq (
  .reg none [⟨(some 4), none, .asn (.c (.bool true))⟩]) (
 .ret)))
def r_spec_l5All : Nat × List RV := (27, [.t 4])

theorem c_spec_l5All : cmpS PT PF PA (Try.prog.funcs[173]?) = some (r_spec_l5All.1, r_spec_l5All.2, stripK k_spec_l5All) := by kernel_rfl

theorem h_spec_l5All (row : List Int) (f : Nat) (hf : f < 2 ^ 20) (hr : lL l0 row) : CallsF Try.prog 173 [.one (.ar false 0 1 (row.map rI)), .one (.ar false 0 1 ((bitsF f 20).map rI))] (aB (nulIn f row)) := by
  refine Prun c_spec_l5All (by simp [r_spec_l5All]) (by simp) ?_
  unfold k_spec_l5All r_spec_l5All
  have hr1 := hr.1
  have hbl := bits_len f
  generalize hT : nulIn f row = T
  have hT0 : nulIn f (row.drop 0) = T := by simpa using hT
  clear hT
  simp
  refine awp_loop (fun n σ => ∃ i : Nat, i ≤ row.length ∧ n = row.length - i ∧ nulIn f (row.drop i) = T ∧ σ = ⟨[(0, .one (.ar false 0 1 (row.map rI))), (1, .one (.ar false 0 1 ((bitsF f 20).map rI))), (5, aI i)], []⟩) (row.length) ⟨0, by simpa using hT0⟩ ?_
  rintro n σ ⟨i, hi, rfl, ht, rfl⟩
  by_cases h : i < row.length
  case neg =>
    unfold nulIn at ht
    rw [all_end h] at ht
    subst ht
    simp [h]
  have hri := hr.2 i h
  unfold nulIn at ht
  rw [all_drop h] at ht
  have wi : IntKind.i64.wrap ((i : Int) + 1) = i + 1 := wrapI (by omega) (by omega)
  generalize hx : row[i] = x at *
  simp only [l0] at hri
  simp [h, hx]
  by_cases c1 : x < 100
  · have : ¬ 100 ≤ x := by omega
    simp [this] at ht
    simp [c1, ht]
  have c1' : 100 ≤ x := by omega
  have wx : IntKind.i64.wrap (x - 100) = x - 100 := wrapI (by omega) (by omega)
  have hm := mem_bits20 (x := x - 100) hf (by omega)
  have hh := h_spec_SetHas (bitsF f 20) (x - 100) (by omega)
  rw [hm] at hh
  simp [c1, wx, hx, h]
  refine callG_F hh (by simp) ?_
  cases c3 : f.testBit (x - 100).toNat with
  | false => simp [c1', prt, c3] at ht; simp [ht]
  | true =>
    simp [c1', prt, c3] at ht
    simp
    exact ⟨row.length - (i + 1), by omega, i + 1, by omega, rfl, by simpa [nulIn, prt] using ht, by rw [wi]; simp⟩
-- 144 loop.example/g00485/spec.l5Empties
def k_spec_l5Empties : K :=
 .seq (
  .reg none [⟨(some 1), none, .box 39 1 (.t 0)⟩,
    ⟨(some 2), none, .asn (.c (.ar true 3 1 []))⟩]) (
 .seq (
  .reg none [⟨(some 7), none, .bls 3 1 false []⟩,
    ⟨(some 3), none, .asn (.t 7)⟩]) (
 .seq (
  .seq (
   .reg none [⟨(some 4), none, .asn (.c (.int .i64 (0)))⟩]) (
  .block 0 (
   .loop (some ([1, 3, 4], [1, 3, 4, 1000])) (
    .seq (
     .seq (
      .reg none [⟨(some 8), none, .mv (.t 4)⟩,
        ⟨(some 9), none, .fad 0 (.t 1)⟩,
        ⟨(some 10), none, .ld 1 false (.t 9)⟩,
        ⟨(some 11), none, .len (.t 10)⟩,
        ⟨(some 12), none, .bin .leq (.t 8) (.t 11)⟩]) (
     .cond (.t 12) (
      .skip) (
      .exit 0))) (
    .seq (
     .block 1 (
      .seq (
       .reg none [⟨(some 5), none, .asn (.c (.int .i64 (0)))⟩]) (
      .block 2 (
       .loop (some ([1, 3, 4, 5], [1, 3, 4, 5, 1000])) (
        .seq (
         .seq (
          .reg none [⟨(some 15), none, .mv (.t 5)⟩,
            ⟨(some 16), none, .fad 0 (.t 1)⟩,
            ⟨(some 17), none, .ld 1 false (.t 16)⟩,
            ⟨(some 18), none, .len (.t 17)⟩,
            ⟨(some 19), none, .bin .lss (.t 15) (.t 18)⟩]) (
         .cond (.t 19) (
          .skip) (
          .exit 2))) (
        .seq (
         .block 3 (
          .seq (
           .reg none [⟨(some 6), none, .asn (.c (.int .i64 (0)))⟩]) (
          .block 4 (
           .loop (some ([1, 3, 4, 5, 6], [1, 3, 4, 5, 6, 1000])) (
            .seq (
             .seq (
              .reg none [⟨(some 22), none, .mv (.t 6)⟩,
                ⟨(some 23), none, .fad 0 (.t 1)⟩,
                ⟨(some 24), none, .ld 1 false (.t 23)⟩,
                ⟨(some 25), none, .mv (.t 5)⟩,
                ⟨(some 26), none, .iad 1 (.t 24) (.t 25)⟩,
                ⟨(some 27), none, .ld 1 false (.t 26)⟩,
                ⟨(some 28), none, .len (.t 27)⟩,
                ⟨(some 29), none, .bin .lss (.t 22) (.t 28)⟩]) (
             .cond (.t 29) (
              .skip) (
              .exit 4))) (
            .seq (
             .block 5 (
              .seq (
               .reg none [⟨(some 32), none, .fad 0 (.t 1)⟩,
                 ⟨(some 33), none, .ld 1 false (.t 32)⟩,
                 ⟨(some 34), none, .mv (.t 5)⟩,
                 ⟨(some 35), none, .iad 1 (.t 33) (.t 34)⟩,
                 ⟨(some 36), none, .ld 1 false (.t 35)⟩,
                 ⟨(some 37), none, .mv (.t 6)⟩,
                 ⟨(some 38), none, .iad 1 (.t 36) (.t 37)⟩,
                 ⟨(some 39), none, .ld 1 false (.t 38)⟩,
                 ⟨(some 40), none, .mv (.t 3)⟩,
                 ⟨(some 41), none, .call 173 [(.t 39), (.t 40)]⟩]) (
              .cond (.t 41) (
               .reg none [⟨(some 42), none, .mv (.t 3)⟩,
                 ⟨(some 43), none, .mv (.t 5)⟩,
                 ⟨(some 44), none, .call 129 [(.t 42), (.t 43)]⟩,
                 ⟨(some 3), none, .asn (.t 44)⟩]) (
               .skip)))) (
            .reg none [⟨(some 30), none, .mv (.t 6)⟩,
              ⟨(some 31), none, .bin .add (.t 30) (.c (.int .i64 (1)))⟩,
              ⟨(some 6), none, .asn (.t 31)⟩]))))))) (
        .reg none [⟨(some 20), none, .mv (.t 5)⟩,
          ⟨(some 21), none, .bin .add (.t 20) (.c (.int .i64 (1)))⟩,
          ⟨(some 5), none, .asn (.t 21)⟩]))))))) (
    .reg none [⟨(some 13), none, .mv (.t 4)⟩,
      ⟨(some 14), none, .bin .add (.t 13) (.c (.int .i64 (1)))⟩,
      ⟨(some 4), none, .asn (.t 14)⟩])))))) (
 .seq (
  .reg none [⟨(some 45), none, .mv (.t 3)⟩,
    ⟨(some 2), none, .asn (.t 45)⟩]) (
 .ret))))
def r_spec_l5Empties : Nat × List RV := (46, [.t 2])

theorem c_spec_l5Empties : cmpS PT PF PA (Try.prog.funcs[144]?) = some (r_spec_l5Empties.1, r_spec_l5Empties.2, stripK k_spec_l5Empties) := by kernel_rfl

set_option maxRecDepth 200000 in
theorem h_spec_l5Empties (g : TGram) (hg : gramOk g = true) (hw : wGram g < 2 ^ 31) (hl : lGram g) : CallsF Try.prog 144 [.agg (sGram g)] (.one (.ar true 3 1 ((bitsF (empties g.parts) 20).map rI))) := by
  refine Prun c_spec_l5Empties (by simp [r_spec_l5Empties]) (by simp) ?_
  unfold k_spec_l5Empties r_spec_l5Empties
  have hn := len_of hg
  obtain ⟨ps⟩ := g
  simp only [wGram] at hw
  simp only [lGram] at hl
  simp only at hn
  have hln := wL_len (wL (wL w0)) ps
  have hgr : Grows (passP (setP nulIn) 0 ps) ps.length := passP_grows fun k al hk _ => setP_grows _ hk al
  have hlt := grows_iter hgr (Nat.two_pow_pos _ : 0 < 2 ^ ps.length)
  have hf20 : ∀ {f : Nat}, f < 2 ^ ps.length → f < 2 ^ 20 := fun h => Nat.lt_of_lt_of_le h (Nat.pow_le_pow_right (by omega) hn.2)
  simp [sGram]
  refine awp_loop (fun n σ => ∃ m : Nat, m ≤ ps.length + 1 ∧ n = ps.length + 1 - m ∧ σ = ⟨[(1, .one (.pt 1 1 [] 0 0)), (3, .one (.vw 3 1 3 [] 0 (bitsF (iter (passP (setP nulIn) 0 ps) m 0) 20).length)), (4, aI m)], [(1, ⟨39, 1, [[.ar false 0 1 (ps.map sISS)]]⟩), (3, ⟨3, 1, (bitsF (iter (passP (setP nulIn) 0 ps) m 0) 20).map rI⟩)]⟩) (ps.length + 1) ⟨0, by simp [iter, bitsF]⟩ ?_
  rintro n σ ⟨m, hm, rfl, rfl⟩
  have wm : IntKind.i64.wrap ((m : Int) + 1) = m + 1 := wrapI (by omega) (by omega)
  by_cases hmn : m ≤ ps.length
  case neg =>
    have : m = ps.length + 1 := by omega
    subst this
    have c : ¬ ((ps.length : Int) + 1 ≤ ps.length) := by omega
    simp [c, empties]
  have c : (m : Int) ≤ ps.length := by omega
  have hfm := hlt m
  have hpm : passP (setP nulIn) 0 ps (iter (passP (setP nulIn) 0 ps) m 0) = iter (passP (setP nulIn) 0 ps) (m + 1) 0 := rfl
  generalize hT : iter (passP (setP nulIn) 0 ps) (m + 1) 0 = T at *
  generalize iter (passP (setP nulIn) 0 ps) m 0 = f0 at *
  simp [c]
  refine awp_loop (fun n σ => ∃ (i f : Nat), i ≤ ps.length ∧ n = ps.length - i ∧ f < 2 ^ ps.length ∧ passP (setP nulIn) i (ps.drop i) f = T ∧ σ = ⟨[(1, .one (.pt 1 1 [] 0 0)), (3, .one (.vw 3 1 3 [] 0 (bitsF f 20).length)), (4, aI m), (5, aI i)], [(1, ⟨39, 1, [[.ar false 0 1 (ps.map sISS)]]⟩), (3, ⟨3, 1, (bitsF f 20).map rI⟩)]⟩) (ps.length) ⟨0, f0, by omega, rfl, hfm, by simpa using hpm, by simp⟩ ?_
  rintro n σ ⟨i, f, hi, rfl, hf, ht, rfl⟩
  have wi : IntKind.i64.wrap ((i : Int) + 1) = i + 1 := wrapI (by omega) (by omega)
  by_cases h : i < ps.length
  case neg =>
    rw [passP_end h] at ht
    subst ht
    simp [h]
    exact ⟨ps.length + 1 - (m + 1), by omega, m + 1, by omega, rfl, by simp [hT, wm]⟩
  rw [passP_drop h] at ht
  have hli := hl.2 i h
  have hwa := wL_get (wL (wL w0)) ps i h
  generalize hal : ps[i] = al at *
  have hla := wL_len (wL w0) al
  simp [h]
  generalize hT2 : setP nulIn i al f = T2 at ht
  refine awp_loop (fun n σ => ∃ (j f : Nat), j ≤ al.length ∧ n = al.length - j ∧ f < 2 ^ ps.length ∧ setP nulIn i (al.drop j) f = T2 ∧ σ = ⟨[(1, .one (.pt 1 1 [] 0 0)), (3, .one (.vw 3 1 3 [] 0 (bitsF f 20).length)), (4, aI m), (5, aI i), (6, aI j)], [(1, ⟨39, 1, [[.ar false 0 1 (ps.map sISS)]]⟩), (3, ⟨3, 1, (bitsF f 20).map rI⟩)]⟩) (al.length) ⟨0, f, by omega, rfl, hf, by simpa using hT2, by simp⟩ ?_
  rintro n σ ⟨j, f, hj, rfl, hf, ht2, rfl⟩
  have wj : IntKind.i64.wrap ((j : Int) + 1) = j + 1 := wrapI (by omega) (by omega)
  by_cases h2 : j < al.length
  case neg =>
    rw [setP_end h2] at ht2
    subst ht2
    simp [h, hal, h2, sISS]
    exact ⟨ps.length - (i + 1), by omega, i + 1, by omega, rfl, f, hf, ht, by simp [wi]⟩
  rw [setP_drop h2] at ht2
  have hlj := hli.2 j h2
  generalize hrw : al[j] = row at *
  simp [h, hal, h2, hrw, sISS, sIS]
  refine callG_F (h_spec_l5All row f (hf20 hf) hlj) (by simp) ?_
  have hbl := bits_len f
  cases c2 : nulIn f row with
  | false =>
    rw [c2] at ht2
    simp
    exact ⟨al.length - (j + 1), by omega, j + 1, by omega, rfl, f, hf, by simpa using ht2, by simp [wj]⟩
  | true =>
    rw [c2] at ht2
    have hsa := h_spec_SetAdd (bitsF f 20) i (by omega)
    rw [setAdd_bitsF (by omega : i < 20)] at hsa
    simp
    refine callG_F hsa (by simp) ?_
    simp
    exact ⟨al.length - (j + 1), by omega, j + 1, by omega, rfl, f ||| 2 ^ i, or_lt hf h, by simpa using ht2, by simp [wj]⟩
end Go.Am
-- SpecCheck
namespace Go.Am
open Go.Proofs
set_option maxHeartbeats 4000000
set_option maxRecDepth 100000
attribute [-simp] BitVec.toNat_or BitVec.toNat_and BitVec.toNat_ofInt
attribute [-simp] cS_t cS_f row20_len row20_sc row20_view row20_store row20_aff row20_ref row20_noSh row20_shr row20_lend row20_take row20_drop
-- 146 loop.example/g00485/spec.l6Alive
def k_spec_l6Alive : K :=
 .seq (
  .reg none [⟨(some 4), none, .asn (.c (.bool false))⟩]) (
 .seq (
  .seq (
   .reg none [⟨(some 5), none, .asn (.c (.int .i64 (0)))⟩]) (
  .block 0 (
   .loop (some ([0, 1, 5], [0, 1, 5, 1000])) (
    .seq (
     .seq (
      .reg none [⟨(some 6), none, .mv (.t 5)⟩,
        ⟨(some 7), none, .mv (.t 0)⟩,
        ⟨(some 8), none, .len (.t 7)⟩,
        ⟨(some 9), none, .bin .lss (.t 6) (.t 8)⟩]) (
     .cond (.t 9) (
      .skip) (
      .exit 0))) (
    .seq (
     .block 1 (
      .seq (
       .reg none [⟨(some 12), none, .mv (.t 0)⟩,
         ⟨(some 13), none, .mv (.t 5)⟩,
         ⟨(some 14), none, .iad 1 (.t 12) (.t 13)⟩,
         ⟨(some 15), none, .ld 1 false (.t 14)⟩,
         ⟨(some 16), none, .bin .geq (.t 15) (.c (.int .i64 (100)))⟩,
         ⟨(some 17), none, .mv (.t 16)⟩,
         ⟨(some 18), (some (17, true)), .mv (.t 1)⟩,
         ⟨(some 19), (some (17, true)), .mv (.t 0)⟩,
         ⟨(some 20), (some (17, true)), .mv (.t 5)⟩,
         ⟨(some 21), (some (17, true)), .iad 1 (.t 19) (.t 20)⟩,
         ⟨(some 22), (some (17, true)), .ld 1 false (.t 21)⟩,
         ⟨(some 23), (some (17, true)), .bin .sub (.t 22) (.c (.int .i64 (100)))⟩,
         ⟨(some 24), (some (17, true)), .call 107 [(.t 18), (.t 23)]⟩,
         ⟨(some 25), (some (17, true)), .not (.t 24)⟩,
         ⟨(some 26), none, .pick (.t 17) (.t 25) (.c (.bool false))⟩]) (
      .cond (.t 26) (
       .seq (
        .reg none [⟨(some 4), none, .asn (.c (.bool false))⟩]) (
       .ret)) (
       .skip)))) (
    .reg none [⟨(some 10), none, .mv (.t 5)⟩,
      ⟨(some 11), none, .bin .add (.t 10) (.c (.int .i64 (1)))⟩,
      ⟨(some 5), none, .asn (.t 11)⟩])))))) (
 .seq (
  .reg none [⟨(some 4), none, .asn (.c (.bool true))⟩]) (
 .ret)))
def r_spec_l6Alive : Nat × List RV := (27, [.t 4])

theorem c_spec_l6Alive : cmpS PT PF PA (Try.prog.funcs[146]?) = some (r_spec_l6Alive.1, r_spec_l6Alive.2, stripK k_spec_l6Alive) := by kernel_rfl

theorem h_spec_l6Alive (row : List Int) (f : Nat) (hf : f < 2 ^ 20) (hr : lL l0 row) : CallsF Try.prog 146 [.one (.ar false 0 1 (row.map rI)), .one (.ar false 0 1 ((bitsF f 20).map rI))] (aB (prdIn f row)) := by
  refine Prun c_spec_l6Alive (by simp [r_spec_l6Alive]) (by simp) ?_
  unfold k_spec_l6Alive r_spec_l6Alive
  have hr1 := hr.1
  have hbl := bits_len f
  generalize hT : prdIn f row = T
  have hT0 : prdIn f (row.drop 0) = T := by simpa using hT
  clear hT
  simp
  refine awp_loop (fun n σ => ∃ i : Nat, i ≤ row.length ∧ n = row.length - i ∧ prdIn f (row.drop i) = T ∧ σ = ⟨[(0, .one (.ar false 0 1 (row.map rI))), (1, .one (.ar false 0 1 ((bitsF f 20).map rI))), (5, aI i)], []⟩) (row.length) ⟨0, by simpa using hT0⟩ ?_
  rintro n σ ⟨i, hi, rfl, ht, rfl⟩
  by_cases h : i < row.length
  case neg =>
    unfold prdIn at ht
    rw [all_end h] at ht
    subst ht
    simp [h]
  have hri := hr.2 i h
  unfold prdIn at ht
  rw [all_drop h] at ht
  have wi : IntKind.i64.wrap ((i : Int) + 1) = i + 1 := wrapI (by omega) (by omega)
  generalize hx : row[i] = x at *
  simp only [l0] at hri
  simp [h, hx]
  by_cases c1 : 100 ≤ x
  case neg =>
    have c1' : x < 100 := by omega
    simp [c1'] at ht
    simp [c1]
    exact ⟨row.length - (i + 1), by omega, i + 1, by omega, rfl, by simpa [prdIn] using ht, by rw [wi]; simp⟩
  have c1' : ¬ x < 100 := by omega
  have wx : IntKind.i64.wrap (x - 100) = x - 100 := wrapI (by omega) (by omega)
  have hm := mem_bits20 (x := x - 100) hf (by omega)
  have hh := h_spec_SetHas (bitsF f 20) (x - 100) (by omega)
  rw [hm] at hh
  simp [c1, wx, hx, h]
  refine callG_F hh (by simp) ?_
  cases c3 : f.testBit (x - 100).toNat with
  | false => simp [c1', prt, c3] at ht; simp [ht]
  | true =>
    simp [c1', prt, c3] at ht
    simp
    exact ⟨row.length - (i + 1), by omega, i + 1, by omega, rfl, by simpa [prdIn, prt] using ht, by rw [wi]; simp⟩
-- 108 loop.example/g00485/spec.Productive
def k_spec_Productive : K :=
 .seq (
  .reg none [⟨(some 1), none, .box 39 1 (.t 0)⟩,
    ⟨(some 2), none, .asn (.c (.ar true 3 1 []))⟩]) (
 .seq (
  .reg none [⟨(some 7), none, .bls 3 1 false []⟩,
    ⟨(some 3), none, .asn (.t 7)⟩]) (
 .seq (
  .seq (
   .reg none [⟨(some 8), none, .ld 1 true (.t 1)⟩,
     ⟨(some 9), none, .call 105 [(.t 8)]⟩,
     ⟨(some 10), none, .not (.t 9)⟩]) (
  .cond (.t 10) (
   .seq (
    .reg none [⟨(some 11), none, .mv (.t 3)⟩,
      ⟨(some 2), none, .asn (.t 11)⟩]) (
   .ret)) (
   .skip))) (
 .seq (
  .seq (
   .reg none [⟨(some 4), none, .asn (.c (.int .i64 (0)))⟩]) (
  .block 0 (
   .loop (some ([1, 3, 4], [1, 3, 4, 1000])) (
    .seq (
     .seq (
      .reg none [⟨(some 12), none, .mv (.t 4)⟩,
        ⟨(some 13), none, .fad 0 (.t 1)⟩,
        ⟨(some 14), none, .ld 1 false (.t 13)⟩,
        ⟨(some 15), none, .len (.t 14)⟩,
        ⟨(some 16), none, .bin .leq (.t 12) (.t 15)⟩]) (
     .cond (.t 16) (
      .skip) (
      .exit 0))) (
    .seq (
     .block 1 (
      .seq (
       .reg none [⟨(some 5), none, .asn (.c (.int .i64 (0)))⟩]) (
      .block 2 (
       .loop (some ([1, 3, 4, 5], [1, 3, 4, 5, 1000])) (
        .seq (
         .seq (
          .reg none [⟨(some 19), none, .mv (.t 5)⟩,
            ⟨(some 20), none, .fad 0 (.t 1)⟩,
            ⟨(some 21), none, .ld 1 false (.t 20)⟩,
            ⟨(some 22), none, .len (.t 21)⟩,
            ⟨(some 23), none, .bin .lss (.t 19) (.t 22)⟩]) (
         .cond (.t 23) (
          .skip) (
          .exit 2))) (
        .seq (
         .block 3 (
          .seq (
           .reg none [⟨(some 6), none, .asn (.c (.int .i64 (0)))⟩]) (
          .block 4 (
           .loop (some ([1, 3, 4, 5, 6], [1, 3, 4, 5, 6, 1000])) (
            .seq (
             .seq (
              .reg none [⟨(some 26), none, .mv (.t 6)⟩,
                ⟨(some 27), none, .fad 0 (.t 1)⟩,
                ⟨(some 28), none, .ld 1 false (.t 27)⟩,
                ⟨(some 29), none, .mv (.t 5)⟩,
                ⟨(some 30), none, .iad 1 (.t 28) (.t 29)⟩,
                ⟨(some 31), none, .ld 1 false (.t 30)⟩,
                ⟨(some 32), none, .len (.t 31)⟩,
                ⟨(some 33), none, .bin .lss (.t 26) (.t 32)⟩]) (
             .cond (.t 33) (
              .skip) (
              .exit 4))) (
            .seq (
             .block 5 (
              .seq (
               .reg none [⟨(some 36), none, .fad 0 (.t 1)⟩,
                 ⟨(some 37), none, .ld 1 false (.t 36)⟩,
                 ⟨(some 38), none, .mv (.t 5)⟩,
                 ⟨(some 39), none, .iad 1 (.t 37) (.t 38)⟩,
                 ⟨(some 40), none, .ld 1 false (.t 39)⟩,
                 ⟨(some 41), none, .mv (.t 6)⟩,
                 ⟨(some 42), none, .iad 1 (.t 40) (.t 41)⟩,
                 ⟨(some 43), none, .ld 1 false (.t 42)⟩,
                 ⟨(some 44), none, .mv (.t 3)⟩,
                 ⟨(some 45), none, .call 146 [(.t 43), (.t 44)]⟩]) (
              .cond (.t 45) (
               .reg none [⟨(some 46), none, .mv (.t 3)⟩,
                 ⟨(some 47), none, .mv (.t 5)⟩,
                 ⟨(some 48), none, .call 129 [(.t 46), (.t 47)]⟩,
                 ⟨(some 3), none, .asn (.t 48)⟩]) (
               .skip)))) (
            .reg none [⟨(some 34), none, .mv (.t 6)⟩,
              ⟨(some 35), none, .bin .add (.t 34) (.c (.int .i64 (1)))⟩,
              ⟨(some 6), none, .asn (.t 35)⟩]))))))) (
        .reg none [⟨(some 24), none, .mv (.t 5)⟩,
          ⟨(some 25), none, .bin .add (.t 24) (.c (.int .i64 (1)))⟩,
          ⟨(some 5), none, .asn (.t 25)⟩]))))))) (
    .reg none [⟨(some 17), none, .mv (.t 4)⟩,
      ⟨(some 18), none, .bin .add (.t 17) (.c (.int .i64 (1)))⟩,
      ⟨(some 4), none, .asn (.t 18)⟩])))))) (
 .seq (
  .reg none [⟨(some 49), none, .mv (.t 3)⟩,
    ⟨(some 2), none, .asn (.t 49)⟩]) (
 .ret)))))
def r_spec_Productive : Nat × List RV := (50, [.t 2])

theorem c_spec_Productive : cmpS PT PF PA (Try.prog.funcs[108]?) = some (r_spec_Productive.1, r_spec_Productive.2, stripK k_spec_Productive) := by kernel_rfl

set_option maxRecDepth 200000 in
theorem h_spec_Productive (g : TGram) (hg : gramOk g = true) (hw : wGram g < 2 ^ 31) (hl : lGram g) : CallsF Try.prog 108 [.agg (sGram g)] (.one (.ar true 3 1 ((bitsF (prods g.parts) 20).map rI))) := by
  refine Prun c_spec_Productive (by simp [r_spec_Productive]) (by simp) ?_
  unfold k_spec_Productive r_spec_Productive
  have hn := len_of hg
  have hgo := h_spec_GramOk g hw
  rw [hg] at hgo
  obtain ⟨ps⟩ := g
  simp only [sGram] at hgo
  simp only [wGram] at hw
  simp only [lGram] at hl
  simp only at hn
  have hln := wL_len (wL (wL w0)) ps
  have hgr : Grows (passP (setP prdIn) 0 ps) ps.length := passP_grows fun k al hk _ => setP_grows _ hk al
  have hlt := grows_iter hgr (Nat.two_pow_pos _ : 0 < 2 ^ ps.length)
  have hf20 : ∀ {f : Nat}, f < 2 ^ ps.length → f < 2 ^ 20 := fun h => Nat.lt_of_lt_of_le h (Nat.pow_le_pow_right (by omega) hn.2)
  simp [sGram]
  refine callG_F hgo (by simp) ?_
  simp
  refine awp_loop (fun n σ => ∃ m : Nat, m ≤ ps.length + 1 ∧ n = ps.length + 1 - m ∧ σ = ⟨[(1, .one (.pt 1 1 [] 0 0)), (3, .one (.vw 3 1 3 [] 0 (bitsF (iter (passP (setP prdIn) 0 ps) m 0) 20).length)), (4, aI m)], [(1, ⟨39, 1, [[.ar false 0 1 (ps.map sISS)]]⟩), (3, ⟨3, 1, (bitsF (iter (passP (setP prdIn) 0 ps) m 0) 20).map rI⟩)]⟩) (ps.length + 1) ⟨0, by simp [iter, bitsF]⟩ ?_
  rintro n σ ⟨m, hm, rfl, rfl⟩
  have wm : IntKind.i64.wrap ((m : Int) + 1) = m + 1 := wrapI (by omega) (by omega)
  by_cases hmn : m ≤ ps.length
  case neg =>
    have : m = ps.length + 1 := by omega
    subst this
    have c : ¬ ((ps.length : Int) + 1 ≤ ps.length) := by omega
    simp [c, prods]
  have c : (m : Int) ≤ ps.length := by omega
  have hfm := hlt m
  have hpm : passP (setP prdIn) 0 ps (iter (passP (setP prdIn) 0 ps) m 0) = iter (passP (setP prdIn) 0 ps) (m + 1) 0 := rfl
  generalize hT : iter (passP (setP prdIn) 0 ps) (m + 1) 0 = T at *
  generalize iter (passP (setP prdIn) 0 ps) m 0 = f0 at *
  simp [c]
  refine awp_loop (fun n σ => ∃ (i f : Nat), i ≤ ps.length ∧ n = ps.length - i ∧ f < 2 ^ ps.length ∧ passP (setP prdIn) i (ps.drop i) f = T ∧ σ = ⟨[(1, .one (.pt 1 1 [] 0 0)), (3, .one (.vw 3 1 3 [] 0 (bitsF f 20).length)), (4, aI m), (5, aI i)], [(1, ⟨39, 1, [[.ar false 0 1 (ps.map sISS)]]⟩), (3, ⟨3, 1, (bitsF f 20).map rI⟩)]⟩) (ps.length) ⟨0, f0, by omega, rfl, hfm, by simpa using hpm, by simp⟩ ?_
  rintro n σ ⟨i, f, hi, rfl, hf, ht, rfl⟩
  have wi : IntKind.i64.wrap ((i : Int) + 1) = i + 1 := wrapI (by omega) (by omega)
  by_cases h : i < ps.length
  case neg =>
    rw [passP_end h] at ht
    subst ht
    simp [h]
    exact ⟨ps.length + 1 - (m + 1), by omega, m + 1, by omega, rfl, by simp [hT, wm]⟩
  rw [passP_drop h] at ht
  have hli := hl.2 i h
  have hwa := wL_get (wL (wL w0)) ps i h
  generalize hal : ps[i] = al at *
  have hla := wL_len (wL w0) al
  simp [h]
  generalize hT2 : setP prdIn i al f = T2 at ht
  refine awp_loop (fun n σ => ∃ (j f : Nat), j ≤ al.length ∧ n = al.length - j ∧ f < 2 ^ ps.length ∧ setP prdIn i (al.drop j) f = T2 ∧ σ = ⟨[(1, .one (.pt 1 1 [] 0 0)), (3, .one (.vw 3 1 3 [] 0 (bitsF f 20).length)), (4, aI m), (5, aI i), (6, aI j)], [(1, ⟨39, 1, [[.ar false 0 1 (ps.map sISS)]]⟩), (3, ⟨3, 1, (bitsF f 20).map rI⟩)]⟩) (al.length) ⟨0, f, by omega, rfl, hf, by simpa using hT2, by simp⟩ ?_
  rintro n σ ⟨j, f, hj, rfl, hf, ht2, rfl⟩
  have wj : IntKind.i64.wrap ((j : Int) + 1) = j + 1 := wrapI (by omega) (by omega)
  by_cases h2 : j < al.length
  case neg =>
    rw [setP_end h2] at ht2
    subst ht2
    simp [h, hal, h2, sISS]
    exact ⟨ps.length - (i + 1), by omega, i + 1, by omega, rfl, f, hf, ht, by simp [wi]⟩
  rw [setP_drop h2] at ht2
  have hlj := hli.2 j h2
  generalize hrw : al[j] = row at *
  simp [h, hal, h2, hrw, sISS, sIS]
  refine callG_F (h_spec_l6Alive row f (hf20 hf) hlj) (by simp) ?_
  have hbl := bits_len f
  cases c2 : prdIn f row with
  | false =>
    rw [c2] at ht2
    simp
    exact ⟨al.length - (j + 1), by omega, j + 1, by omega, rfl, f, hf, by simpa using ht2, by simp [wj]⟩
  | true =>
    rw [c2] at ht2
    have hsa := h_spec_SetAdd (bitsF f 20) i (by omega)
    rw [setAdd_bitsF (by omega : i < 20)] at hsa
    simp
    refine callG_F hsa (by simp) ?_
    simp
    exact ⟨al.length - (j + 1), by omega, j + 1, by omega, rfl, f ||| 2 ^ i, or_lt hf h, by simpa using ht2, by simp [wj]⟩
-- 109 loop.example/g00485/spec.Reachable
def k_spec_Reachable : K :=
 .seq (
  .reg none [⟨(some 1), none, .box 39 1 (.t 0)⟩,
    ⟨(some 2), none, .asn (.c (.ar true 3 1 []))⟩]) (
 .seq (
  .seq (
   .reg none [⟨(some 8), none, .ld 1 true (.t 1)⟩,
     ⟨(some 9), none, .call 105 [(.t 8)]⟩,
     ⟨(some 10), none, .not (.t 9)⟩]) (
  .cond (.t 10) (
   .seq (
    .reg none [⟨(some 11), none, .bls 3 1 false []⟩,
      ⟨(some 2), none, .asn (.t 11)⟩]) (
   .ret)) (
   .skip))) (
 .seq (
  .reg none [⟨(some 12), none, .bls 3 1 false [(.c (.int .i64 (0)))]⟩,
    ⟨(some 3), none, .asn (.t 12)⟩]) (
 .seq (
  .seq (
   .reg none [⟨(some 4), none, .asn (.c (.int .i64 (0)))⟩]) (
  .block 0 (
   .loop (some ([1, 3, 4], [1, 3, 4, 1000])) (
    .seq (
     .seq (
      .reg none [⟨(some 13), none, .mv (.t 4)⟩,
        ⟨(some 14), none, .fad 0 (.t 1)⟩,
        ⟨(some 15), none, .ld 1 false (.t 14)⟩,
        ⟨(some 16), none, .len (.t 15)⟩,
        ⟨(some 17), none, .bin .leq (.t 13) (.t 16)⟩]) (
     .cond (.t 17) (
      .skip) (
      .exit 0))) (
    .seq (
     .block 1 (
      .seq (
       .reg none [⟨(some 5), none, .asn (.c (.int .i64 (0)))⟩]) (
      .block 2 (
       .loop (some ([1, 3, 4, 5], [1, 3, 4, 5, 1000])) (
        .seq (
         .seq (
          .reg none [⟨(some 20), none, .mv (.t 5)⟩,
            ⟨(some 21), none, .fad 0 (.t 1)⟩,
            ⟨(some 22), none, .ld 1 false (.t 21)⟩,
            ⟨(some 23), none, .len (.t 22)⟩,
            ⟨(some 24), none, .bin .lss (.t 20) (.t 23)⟩]) (
         .cond (.t 24) (
          .skip) (
          .exit 2))) (
        .seq (
         .block 3 (
          .seq (
           .seq (
            .reg none [⟨(some 27), none, .mv (.t 3)⟩,
              ⟨(some 28), none, .mv (.t 5)⟩,
              ⟨(some 29), none, .call 107 [(.t 27), (.t 28)]⟩,
              ⟨(some 30), none, .not (.t 29)⟩]) (
           .cond (.t 30) (
            .exit 3) (
            .skip))) (
          .seq (
           .reg none [⟨(some 6), none, .asn (.c (.int .i64 (0)))⟩]) (
          .block 4 (
           .loop (some ([1, 3, 4, 5, 6], [1, 3, 4, 5, 6, 1000])) (
            .seq (
             .seq (
              .reg none [⟨(some 31), none, .mv (.t 6)⟩,
                ⟨(some 32), none, .fad 0 (.t 1)⟩,
                ⟨(some 33), none, .ld 1 false (.t 32)⟩,
                ⟨(some 34), none, .mv (.t 5)⟩,
                ⟨(some 35), none, .iad 1 (.t 33) (.t 34)⟩,
                ⟨(some 36), none, .ld 1 false (.t 35)⟩,
                ⟨(some 37), none, .len (.t 36)⟩,
                ⟨(some 38), none, .bin .lss (.t 31) (.t 37)⟩]) (
             .cond (.t 38) (
              .skip) (
              .exit 4))) (
            .seq (
             .block 5 (
              .seq (
               .reg none [⟨(some 7), none, .asn (.c (.int .i64 (0)))⟩]) (
              .block 6 (
               .loop (some ([1, 3, 4, 5, 6, 7], [1, 3, 4, 5, 6, 7, 1000])) (
                .seq (
                 .seq (
                  .reg none [⟨(some 41), none, .mv (.t 7)⟩,
                    ⟨(some 42), none, .fad 0 (.t 1)⟩,
                    ⟨(some 43), none, .ld 1 false (.t 42)⟩,
                    ⟨(some 44), none, .mv (.t 5)⟩,
                    ⟨(some 45), none, .iad 1 (.t 43) (.t 44)⟩,
                    ⟨(some 46), none, .ld 1 false (.t 45)⟩,
                    ⟨(some 47), none, .mv (.t 6)⟩,
                    ⟨(some 48), none, .iad 1 (.t 46) (.t 47)⟩,
                    ⟨(some 49), none, .ld 1 false (.t 48)⟩,
                    ⟨(some 50), none, .len (.t 49)⟩,
                    ⟨(some 51), none, .bin .lss (.t 41) (.t 50)⟩]) (
                 .cond (.t 51) (
                  .skip) (
                  .exit 6))) (
                .seq (
                 .block 7 (
                  .seq (
                   .reg none [⟨(some 54), none, .fad 0 (.t 1)⟩,
                     ⟨(some 55), none, .ld 1 false (.t 54)⟩,
                     ⟨(some 56), none, .mv (.t 5)⟩,
                     ⟨(some 57), none, .iad 1 (.t 55) (.t 56)⟩,
                     ⟨(some 58), none, .ld 1 false (.t 57)⟩,
                     ⟨(some 59), none, .mv (.t 6)⟩,
                     ⟨(some 60), none, .iad 1 (.t 58) (.t 59)⟩,
                     ⟨(some 61), none, .ld 1 false (.t 60)⟩,
                     ⟨(some 62), none, .mv (.t 7)⟩,
                     ⟨(some 63), none, .iad 1 (.t 61) (.t 62)⟩,
                     ⟨(some 64), none, .ld 1 false (.t 63)⟩,
                     ⟨(some 65), none, .bin .geq (.t 64) (.c (.int .i64 (100)))⟩]) (
                  .cond (.t 65) (
                   .reg none [⟨(some 66), none, .mv (.t 3)⟩,
                     ⟨(some 67), none, .fad 0 (.t 1)⟩,
                     ⟨(some 68), none, .ld 1 false (.t 67)⟩,
                     ⟨(some 69), none, .mv (.t 5)⟩,
                     ⟨(some 70), none, .iad 1 (.t 68) (.t 69)⟩,
                     ⟨(some 71), none, .ld 1 false (.t 70)⟩,
                     ⟨(some 72), none, .mv (.t 6)⟩,
                     ⟨(some 73), none, .iad 1 (.t 71) (.t 72)⟩,
                     ⟨(some 74), none, .ld 1 false (.t 73)⟩,
                     ⟨(some 75), none, .mv (.t 7)⟩,
                     ⟨(some 76), none, .iad 1 (.t 74) (.t 75)⟩,
                     ⟨(some 77), none, .ld 1 false (.t 76)⟩,
                     ⟨(some 78), none, .bin .sub (.t 77) (.c (.int .i64 (100)))⟩,
                     ⟨(some 79), none, .call 129 [(.t 66), (.t 78)]⟩,
                     ⟨(some 3), none, .asn (.t 79)⟩]) (
                   .skip)))) (
                .reg none [⟨(some 52), none, .mv (.t 7)⟩,
                  ⟨(some 53), none, .bin .add (.t 52) (.c (.int .i64 (1)))⟩,
                  ⟨(some 7), none, .asn (.t 53)⟩]))))))) (
            .reg none [⟨(some 39), none, .mv (.t 6)⟩,
              ⟨(some 40), none, .bin .add (.t 39) (.c (.int .i64 (1)))⟩,
              ⟨(some 6), none, .asn (.t 40)⟩])))))))) (
        .reg none [⟨(some 25), none, .mv (.t 5)⟩,
          ⟨(some 26), none, .bin .add (.t 25) (.c (.int .i64 (1)))⟩,
          ⟨(some 5), none, .asn (.t 26)⟩]))))))) (
    .reg none [⟨(some 18), none, .mv (.t 4)⟩,
      ⟨(some 19), none, .bin .add (.t 18) (.c (.int .i64 (1)))⟩,
      ⟨(some 4), none, .asn (.t 19)⟩])))))) (
 .seq (
  .reg none [⟨(some 80), none, .mv (.t 3)⟩,
    ⟨(some 2), none, .asn (.t 80)⟩]) (
 .ret)))))
def r_spec_Reachable : Nat × List RV := (81, [.t 2])

theorem c_spec_Reachable : cmpS PT PF PA (Try.prog.funcs[109]?) = some (r_spec_Reachable.1, r_spec_Reachable.2, stripK k_spec_Reachable) := by kernel_rfl

set_option maxRecDepth 200000 in
theorem h_spec_Reachable (g : TGram) (hg : gramOk g = true) (hw : wGram g < 2 ^ 31) (hl : lGram g) : CallsF Try.prog 109 [.agg (sGram g)] (.one (.ar true 3 1 ((bitsF (rchs g.parts) 20).map rI))) := by
  refine Prun c_spec_Reachable (by simp [r_spec_Reachable]) (by simp) ?_
  unfold k_spec_Reachable r_spec_Reachable
  have hn := len_of hg
  have hs := symsOk_of hg
  have hgo := h_spec_GramOk g hw
  rw [hg] at hgo
  obtain ⟨ps⟩ := g
  simp only [wGram] at hw
  simp only [lGram] at hl
  simp only [sGram] at hgo
  simp only at hn hs
  have hln := wL_len (wL (wL w0)) ps
  have hgr : Grows (passP rchP 0 ps) ps.length := passP_grows fun k al hk hm => rchP_grows (hs al hm)
  have hlt := grows_iter hgr (show 1 < 2 ^ ps.length from Nat.one_lt_two_pow (by omega))
  have hf20 : ∀ {f : Nat}, f < 2 ^ ps.length → f < 2 ^ 20 := fun h => Nat.lt_of_lt_of_le h (Nat.pow_le_pow_right (by omega) hn.2)
  have hb1 : bitsF 1 20 = [0] := by decide
  simp [sGram]
  refine callG_F hgo (by simp) ?_
  simp
  refine awp_loop (fun n σ => ∃ m : Nat, m ≤ ps.length + 1 ∧ n = ps.length + 1 - m ∧ σ = ⟨[(1, .one (.pt 1 1 [] 0 0)), (3, .one (.vw 3 1 3 [] 0 (bitsF (iter (passP rchP 0 ps) m 1) 20).length)), (4, aI m)], [(1, ⟨39, 1, [[.ar false 0 1 (ps.map sISS)]]⟩), (3, ⟨3, 1, (bitsF (iter (passP rchP 0 ps) m 1) 20).map rI⟩)]⟩) (ps.length + 1) ⟨0, by simp [iter, hb1]⟩ ?_
  rintro n σ ⟨m, hm, rfl, rfl⟩
  have wm : IntKind.i64.wrap ((m : Int) + 1) = m + 1 := wrapI (by omega) (by omega)
  by_cases hmn : m ≤ ps.length
  case neg =>
    have : m = ps.length + 1 := by omega
    subst this
    have c : ¬ ((ps.length : Int) + 1 ≤ ps.length) := by omega
    simp [c, rchs]
  have c : (m : Int) ≤ ps.length := by omega
  have hfm := hlt m
  have hpm : passP rchP 0 ps (iter (passP rchP 0 ps) m 1) = iter (passP rchP 0 ps) (m + 1) 1 := rfl
  generalize hT : iter (passP rchP 0 ps) (m + 1) 1 = T at *
  generalize iter (passP rchP 0 ps) m 1 = f0 at *
  simp [c]
  refine awp_loop (fun n σ => ∃ (i f : Nat), i ≤ ps.length ∧ n = ps.length - i ∧ f < 2 ^ ps.length ∧ passP rchP i (ps.drop i) f = T ∧ σ = ⟨[(1, .one (.pt 1 1 [] 0 0)), (3, .one (.vw 3 1 3 [] 0 (bitsF f 20).length)), (4, aI m), (5, aI i)], [(1, ⟨39, 1, [[.ar false 0 1 (ps.map sISS)]]⟩), (3, ⟨3, 1, (bitsF f 20).map rI⟩)]⟩) (ps.length) ⟨0, f0, by omega, rfl, hfm, by simpa using hpm, by simp⟩ ?_
  rintro n σ ⟨i, f, hi, rfl, hf, ht, rfl⟩
  have wi : IntKind.i64.wrap ((i : Int) + 1) = i + 1 := wrapI (by omega) (by omega)
  by_cases h : i < ps.length
  case neg =>
    rw [passP_end h] at ht
    subst ht
    simp [h]
    exact ⟨ps.length + 1 - (m + 1), by omega, m + 1, by omega, rfl, by simp [hT, wm]⟩
  rw [passP_drop h] at ht
  have hli := hl.2 i h
  have hsa := hs ps[i] (List.getElem_mem h)
  have hwa := wL_get (wL (wL w0)) ps i h
  generalize hal : ps[i] = al at *
  have hla := wL_len (wL w0) al
  have hbl := bits_len f
  have hh := h_spec_SetHas (bitsF f 20) i (by omega)
  rw [mem_bits20 (hf20 hf) (by omega), Int.toNat_natCast] at hh
  simp [h]
  refine callG_F hh (by simp) ?_
  cases c0 : f.testBit i with
  | false =>
    simp
    exact ⟨ps.length - (i + 1), by omega, i + 1, by omega, rfl, f, hf, by simpa [rchP, c0] using ht, by simp [wi]⟩
  | true =>
  simp
  generalize hT2 : rchP i al f = T2 at ht
  have hT2b : al.foldl rchRow f = T2 := by rw [← hT2]; simp [rchP, c0]
  clear hT2
  refine awp_loop (fun n σ => ∃ (j f : Nat), j ≤ al.length ∧ n = al.length - j ∧ f < 2 ^ ps.length ∧ (al.drop j).foldl rchRow f = T2 ∧ σ = ⟨[(1, .one (.pt 1 1 [] 0 0)), (3, .one (.vw 3 1 3 [] 0 (bitsF f 20).length)), (4, aI m), (5, aI i), (6, aI j)], [(1, ⟨39, 1, [[.ar false 0 1 (ps.map sISS)]]⟩), (3, ⟨3, 1, (bitsF f 20).map rI⟩)]⟩) (al.length) ⟨0, f, by omega, rfl, hf, by simpa using hT2b, by simp⟩ ?_
  rintro n σ ⟨j, f, hj, rfl, hf, ht2, rfl⟩
  have wj : IntKind.i64.wrap ((j : Int) + 1) = j + 1 := wrapI (by omega) (by omega)
  by_cases h2 : j < al.length
  case neg =>
    rw [foldl_end h2] at ht2
    subst ht2
    simp [h, hal, h2, sISS]
    exact ⟨ps.length - (i + 1), by omega, i + 1, by omega, rfl, f, hf, ht, by simp [wi]⟩
  rw [foldl_drop h2] at ht2
  have hlj := hli.2 j h2
  have hsr := hsa al[j] (List.getElem_mem h2)
  generalize hrw : al[j] = row at *
  have hlr := hlj.1
  simp [h, hal, h2, sISS]
  generalize hT3 : rchRow f row = T3 at ht2
  refine awp_loop (fun n σ => ∃ (k f : Nat), k ≤ row.length ∧ n = row.length - k ∧ f < 2 ^ ps.length ∧ rchRow f (row.drop k) = T3 ∧ σ = ⟨[(1, .one (.pt 1 1 [] 0 0)), (3, .one (.vw 3 1 3 [] 0 (bitsF f 20).length)), (4, aI m), (5, aI i), (6, aI j), (7, aI k)], [(1, ⟨39, 1, [[.ar false 0 1 (ps.map sISS)]]⟩), (3, ⟨3, 1, (bitsF f 20).map rI⟩)]⟩) (row.length) ⟨0, f, by omega, rfl, hf, by simpa using hT3, by simp⟩ ?_
  rintro n σ ⟨k, f, hk, rfl, hf, ht3, rfl⟩
  by_cases h3 : k < row.length
  case neg =>
    rw [rchRow_end h3] at ht3
    subst ht3
    simp [h, hal, h2, hrw, h3, sISS, sIS]
    exact ⟨al.length - (j + 1), by omega, j + 1, by omega, rfl, f, hf, ht2, by simp [wj]⟩
  have wk : IntKind.i64.wrap ((k : Int) + 1) = k + 1 := wrapI (by omega) (by omega)
  rw [rchRow_drop h3] at ht3
  have hsx := hsr row[k] (List.getElem_mem h3)
  generalize hx : row[k] = x at *
  simp [h, hal, h2, hrw, h3, hx, sISS, sIS]
  by_cases c2 : 100 ≤ x
  case neg =>
    rw [if_neg c2] at ht3
    simp [c2]
    exact ⟨row.length - (k + 1), by omega, k + 1, by omega, rfl, f, hf, ht3, by simp [wk]⟩
  rw [if_pos c2] at ht3
  have hpx := hsx c2
  have hbl := bits_len f
  have wx : IntKind.i64.wrap (x - 100) = ((prt x : Nat) : Int) := by rw [wrapI (by omega) (by unfold prt at hpx; omega)]; unfold prt; omega
  have hsa := h_spec_SetAdd (bitsF f 20) (prt x) (by omega)
  rw [setAdd_bitsF (by omega : prt x < 20)] at hsa
  simp [c2, wx, h, hal, h2, hrw, h3, hx, sISS, sIS]
  refine callG_F hsa (by simp) ?_
  simp
  exact ⟨row.length - (k + 1), by omega, k + 1, by omega, rfl, f ||| 2 ^ prt x, or_lt hf hpx, ht3, by simp [wk]⟩
end Go.Am
-- SpecCheck2
namespace Go.Am
open Go.Proofs
set_option maxHeartbeats 4000000
set_option maxRecDepth 100000
attribute [-simp] BitVec.toNat_or BitVec.toNat_and BitVec.toNat_ofInt
attribute [-simp] cS_t cS_f row20_len row20_sc row20_view row20_store row20_aff row20_ref row20_noSh row20_shr row20_lend row20_take row20_drop
def rB (f : Nat) : List C := [.ar true 3 1 ((bitsF f 20).map rI)]
@[simp] theorem rB_len (f : Nat) : (rB f).length = 1 := rfl
theorem shr_rB (f : Nat) : shrRow (rB f) = [.ar false 0 1 ((bitsF f 20).map rI)] := by simp [rB]
theorem rB_zero : rB 0 = [.ar true 3 1 []] := by
  have : bitsF 0 20 = [] := by decide
  simp [rB, this]
theorem rB_set (v : List Nat) (k m : Nat) : (v.map rB).set k (rB m) = (v.set k m).map rB := by rw [List.map_set]
theorem join20 {a b x : Nat} (hx : x < 20) (hb : b < 2 ^ 20) : (bitsF b 20).foldl setAdd (setAdd (bitsF a 20) x) = bitsF (a ||| (2 ^ x ||| b)) 20 := by
  rw [setAdd_bitsF hx, join_bits 20 _ _ (Nat.le_refl _), Nat.mod_eq_of_lt hb, Nat.or_assoc]
-- 106 loop.example/g00485/spec.l5Starts
def k_spec_l5Starts : K :=
 .seq (
  .reg none [⟨(some 1), none, .box 39 1 (.t 0)⟩,
    ⟨(some 2), none, .asn (.c (.ar true 34 1 []))⟩]) (
 .seq (
  .reg none [⟨(some 11), none, .ld 1 true (.t 1)⟩,
    ⟨(some 12), none, .call 144 [(.t 11)]⟩,
    ⟨(some 3), none, .asn (.t 12)⟩]) (
 .seq (
  .reg none [⟨(some 13), none, .fad 0 (.t 1)⟩,
    ⟨(some 14), none, .ld 1 false (.t 13)⟩,
    ⟨(some 15), none, .len (.t 14)⟩,
    ⟨(some 16), none, .mks 34 1 24 [(.ar true 3 1 [])] (.t 15) (.t 15)⟩,
    ⟨(some 4), none, .asn (.t 16)⟩]) (
 .seq (
  .seq (
   .reg none [⟨(some 5), none, .asn (.c (.int .i64 (0)))⟩]) (
  .block 0 (
   .loop (some ([1, 3, 4, 5], [1, 3, 4, 5, 1000])) (
    .seq (
     .seq (
      .reg none [⟨(some 17), none, .mv (.t 5)⟩,
        ⟨(some 18), none, .fad 0 (.t 1)⟩,
        ⟨(some 19), none, .ld 1 false (.t 18)⟩,
        ⟨(some 20), none, .len (.t 19)⟩,
        ⟨(some 21), none, .bin .leq (.t 17) (.t 20)⟩]) (
     .cond (.t 21) (
      .skip) (
      .exit 0))) (
    .seq (
     .block 1 (
      .seq (
       .reg none [⟨(some 6), none, .asn (.c (.int .i64 (0)))⟩]) (
      .block 2 (
       .loop (some ([1, 3, 4, 5, 6], [1, 3, 4, 5, 6, 1000])) (
        .seq (
         .seq (
          .reg none [⟨(some 24), none, .mv (.t 6)⟩,
            ⟨(some 25), none, .fad 0 (.t 1)⟩,
            ⟨(some 26), none, .ld 1 false (.t 25)⟩,
            ⟨(some 27), none, .len (.t 26)⟩,
            ⟨(some 28), none, .bin .lss (.t 24) (.t 27)⟩]) (
         .cond (.t 28) (
          .skip) (
          .exit 2))) (
        .seq (
         .block 3 (
          .seq (
           .reg none [⟨(some 7), none, .asn (.c (.int .i64 (0)))⟩]) (
          .block 4 (
           .loop (some ([1, 3, 4, 5, 6, 7], [1, 3, 4, 5, 6, 7, 1000])) (
            .seq (
             .seq (
              .reg none [⟨(some 31), none, .mv (.t 7)⟩,
                ⟨(some 32), none, .fad 0 (.t 1)⟩,
                ⟨(some 33), none, .ld 1 false (.t 32)⟩,
                ⟨(some 34), none, .mv (.t 6)⟩,
                ⟨(some 35), none, .iad 1 (.t 33) (.t 34)⟩,
                ⟨(some 36), none, .ld 1 false (.t 35)⟩,
                ⟨(some 37), none, .len (.t 36)⟩,
                ⟨(some 38), none, .bin .lss (.t 31) (.t 37)⟩]) (
             .cond (.t 38) (
              .skip) (
              .exit 4))) (
            .seq (
             .block 5 (
              .seq (
               .reg none [⟨(some 41), none, .fad 0 (.t 1)⟩,
                 ⟨(some 42), none, .ld 1 false (.t 41)⟩,
                 ⟨(some 43), none, .mv (.t 6)⟩,
                 ⟨(some 44), none, .iad 1 (.t 42) (.t 43)⟩,
                 ⟨(some 45), none, .ld 1 false (.t 44)⟩,
                 ⟨(some 46), none, .mv (.t 7)⟩,
                 ⟨(some 47), none, .iad 1 (.t 45) (.t 46)⟩,
                 ⟨(some 48), none, .ld 1 false (.t 47)⟩,
                 ⟨(some 8), none, .asn (.t 48)⟩]) (
              .seq (
               .reg none [⟨(some 9), none, .asn (.c (.int .i64 (0)))⟩]) (
              .block 6 (
               .loop (some ([1, 3, 4, 5, 6, 7, 8, 9], [1, 3, 4, 5, 6, 7, 8, 9, 1000])) (
                .seq (
                 .seq (
                  .reg none [⟨(some 49), none, .mv (.t 9)⟩,
                    ⟨(some 50), none, .mv (.t 8)⟩,
                    ⟨(some 51), none, .len (.t 50)⟩,
                    ⟨(some 52), none, .bin .lss (.t 49) (.t 51)⟩,
                    ⟨(some 53), none, .mv (.t 52)⟩,
                    ⟨(some 54), (some (53, true)), .mv (.t 8)⟩,
                    ⟨(some 55), (some (53, true)), .mv (.t 9)⟩,
                    ⟨(some 56), (some (53, true)), .iad 1 (.t 54) (.t 55)⟩,
                    ⟨(some 57), (some (53, true)), .ld 1 false (.t 56)⟩,
                    ⟨(some 58), (some (53, true)), .bin .geq (.t 57) (.c (.int .i64 (100)))⟩,
                    ⟨(some 59), none, .pick (.t 53) (.t 58) (.c (.bool false))⟩]) (
                 .cond (.t 59) (
                  .skip) (
                  .exit 6))) (
                .seq (
                 .block 7 (
                  .seq (
                   .reg none [⟨(some 62), none, .mv (.t 8)⟩,
                     ⟨(some 63), none, .mv (.t 9)⟩,
                     ⟨(some 64), none, .iad 1 (.t 62) (.t 63)⟩,
                     ⟨(some 65), none, .ld 1 false (.t 64)⟩,
                     ⟨(some 66), none, .bin .sub (.t 65) (.c (.int .i64 (100)))⟩,
                     ⟨(some 10), none, .asn (.t 66)⟩]) (
                  .seq (
                   .drw none 0 [⟨(some 67), none, .mv (.t 4)⟩,
                     ⟨(some 68), none, .mv (.t 6)⟩,
                     ⟨(some 69), none, .mv (.t 4)⟩,
                     ⟨(some 70), none, .mv (.t 6)⟩,
                     ⟨(some 71), none, .iad 1 (.t 69) (.t 70)⟩,
                     ⟨(some 72), none, .ld 1 false (.t 71)⟩,
                     ⟨(some 73), none, .mv (.t 10)⟩,
                     ⟨(some 75), none, .mv (.t 4)⟩,
                     ⟨(some 76), none, .mv (.t 10)⟩,
                     ⟨(some 77), none, .iad 1 (.t 75) (.t 76)⟩,
                     ⟨(some 78), none, .ld 1 false (.t 77)⟩,
                     ⟨(some 74), none, .call 129 [(.t 72), (.t 73)]⟩,
                     ⟨(some 79), none, .call 145 [(.t 74), (.t 78)]⟩,
                     ⟨(some 80), none, .iad 1 (.t 67) (.t 68)⟩,
                     ⟨none, none, .st 1 false (.t 80) (.t 79)⟩]) (
                  .seq (
                   .reg none [⟨(some 81), none, .mv (.t 3)⟩,
                     ⟨(some 82), none, .mv (.t 10)⟩,
                     ⟨(some 83), none, .call 107 [(.t 81), (.t 82)]⟩,
                     ⟨(some 84), none, .not (.t 83)⟩]) (
                  .cond (.t 84) (
                   .exit 6) (
                   .skip)))))) (
                .reg none [⟨(some 60), none, .mv (.t 9)⟩,
                  ⟨(some 61), none, .bin .add (.t 60) (.c (.int .i64 (1)))⟩,
                  ⟨(some 9), none, .asn (.t 61)⟩])))))))) (
            .reg none [⟨(some 39), none, .mv (.t 7)⟩,
              ⟨(some 40), none, .bin .add (.t 39) (.c (.int .i64 (1)))⟩,
              ⟨(some 7), none, .asn (.t 40)⟩]))))))) (
        .reg none [⟨(some 29), none, .mv (.t 6)⟩,
          ⟨(some 30), none, .bin .add (.t 29) (.c (.int .i64 (1)))⟩,
          ⟨(some 6), none, .asn (.t 30)⟩]))))))) (
    .reg none [⟨(some 22), none, .mv (.t 5)⟩,
      ⟨(some 23), none, .bin .add (.t 22) (.c (.int .i64 (1)))⟩,
      ⟨(some 5), none, .asn (.t 23)⟩])))))) (
 .seq (
  .reg none [⟨(some 85), none, .mv (.t 4)⟩,
    ⟨(some 2), none, .asn (.t 85)⟩]) (
 .ret)))))
def r_spec_l5Starts : Nat × List RV := (86, [.t 2])

theorem c_spec_l5Starts : cmpS PT PF PA (Try.prog.funcs[106]?) = some (r_spec_l5Starts.1, r_spec_l5Starts.2, stripK k_spec_l5Starts) := by kernel_rfl

set_option maxRecDepth 200000 in
theorem h_spec_l5Starts (g : TGram) (hg : gramOk g = true) (hw : wGram g < 2 ^ 31) (hl : lGram g) : CallsF Try.prog 106 [.agg (sGram g)] (.one (.ar true 34 1 ((starts g.parts).map rB))) := by
  refine Prun c_spec_l5Starts (by simp [r_spec_l5Starts]) (by simp) ?_
  unfold k_spec_l5Starts r_spec_l5Starts
  have hn := len_of hg
  have hs := symsOk_of hg
  have hem := h_spec_l5Empties g hg hw hl
  have hle : empties g.parts < 2 ^ 20 := Nat.lt_of_lt_of_le (grows_iter (passP_grows (ps := g.parts) fun k al hk _ => setP_grows nulIn hk al) (Nat.two_pow_pos _) _) (Nat.pow_le_pow_right (by omega) hn.2)
  obtain ⟨ps⟩ := g
  simp only [wGram] at hw
  simp only [lGram] at hl
  simp only [sGram] at hem
  simp only at hn hs hle
  have hln := wL_len (wL (wL w0)) ps
  have hvk := fun m => vok_iter (e := empties ps) hs m
  have hle2 : (ps.length : Int) ≤ 4294967296 := by omega
  simp only [starts]
  generalize empties ps = e at *
  have hbe := bits_len e
  have h0 : List.replicate ps.length [C.ar true 3 1 []] = (List.replicate ps.length 0).map rB := by rw [List.map_replicate, rB_zero]
  simp [sGram]
  refine callG_F hem (by simp) ?_
  simp [hle2, h0]
  rw [← List.map_replicate]
  refine awp_loop (fun n σ => ∃ m : Nat, m ≤ ps.length + 1 ∧ n = ps.length + 1 - m ∧ σ = ⟨[(1, .one (.pt 1 1 [] 0 0)), (3, .one (.vw 3 1 3 [] 0 (bitsF e 20).length)), (4, .one (.vw 34 1 4 [] 0 ps.length)), (5, aI m)], [(1, ⟨39, 1, [[.ar false 0 1 (ps.map sISS)]]⟩), (3, ⟨3, 1, (bitsF e 20).map rI⟩), (4, ⟨34, 1, (iter (passP (stP e) 0 ps) m (List.replicate ps.length 0)).map rB⟩)]⟩) (ps.length + 1) ⟨0, by simp [iter]⟩ ?_
  rintro n σ ⟨m, hm, rfl, rfl⟩
  have wm : IntKind.i64.wrap ((m : Int) + 1) = m + 1 := wrapI (by omega) (by omega)
  have hvm := hvk m
  by_cases hmn : m ≤ ps.length
  case neg =>
    have : m = ps.length + 1 := by omega
    subst this
    have c : ¬ ((ps.length : Int) + 1 ≤ ps.length) := by omega
    simp [c, hvm.1]
    rw [List.take_take, Nat.min_self, List.take_of_length_le (by simp [hvm.1])]
  have c : (m : Int) ≤ ps.length := by omega
  have hpm : passP (stP e) 0 ps (iter (passP (stP e) 0 ps) m (List.replicate ps.length 0)) = iter (passP (stP e) 0 ps) (m + 1) (List.replicate ps.length 0) := rfl
  generalize hT : iter (passP (stP e) 0 ps) (m + 1) (List.replicate ps.length 0) = T at *
  generalize iter (passP (stP e) 0 ps) m (List.replicate ps.length 0) = v0 at *
  simp [c]
  refine awp_loop (fun n σ => ∃ (i : Nat) (v : List Nat), i ≤ ps.length ∧ n = ps.length - i ∧ VOk ps.length v ∧ passP (stP e) i (ps.drop i) v = T ∧ σ = ⟨[(1, .one (.pt 1 1 [] 0 0)), (3, .one (.vw 3 1 3 [] 0 (bitsF e 20).length)), (4, .one (.vw 34 1 4 [] 0 ps.length)), (5, aI m), (6, aI i)], [(1, ⟨39, 1, [[.ar false 0 1 (ps.map sISS)]]⟩), (3, ⟨3, 1, (bitsF e 20).map rI⟩), (4, ⟨34, 1, v.map rB⟩)]⟩) (ps.length) ⟨0, v0, by omega, rfl, hvm, by simpa using hpm, by simp⟩ ?_
  rintro n σ ⟨i, v, hi, rfl, hv, ht, rfl⟩
  have wi : IntKind.i64.wrap ((i : Int) + 1) = i + 1 := wrapI (by omega) (by omega)
  by_cases h : i < ps.length
  case neg =>
    rw [passP_end h] at ht
    subst ht
    simp [h]
    exact ⟨ps.length + 1 - (m + 1), by omega, m + 1, by omega, rfl, by simp [hT, wm]⟩
  rw [passP_drop h] at ht
  have hli := hl.2 i h
  have hsa := hs ps[i] (List.getElem_mem h)
  have hwa := wL_get (wL (wL w0)) ps i h
  generalize hal : ps[i] = al at *
  have hla := wL_len (wL w0) al
  simp [h]
  generalize hT2 : stP e i al v = T2 at ht
  refine awp_loop (fun n σ => ∃ (j : Nat) (v : List Nat), j ≤ al.length ∧ n = al.length - j ∧ VOk ps.length v ∧ stP e i (al.drop j) v = T2 ∧ σ = ⟨[(1, .one (.pt 1 1 [] 0 0)), (3, .one (.vw 3 1 3 [] 0 (bitsF e 20).length)), (4, .one (.vw 34 1 4 [] 0 ps.length)), (5, aI m), (6, aI i), (7, aI j)], [(1, ⟨39, 1, [[.ar false 0 1 (ps.map sISS)]]⟩), (3, ⟨3, 1, (bitsF e 20).map rI⟩), (4, ⟨34, 1, v.map rB⟩)]⟩) (al.length) ⟨0, v, by omega, rfl, hv, by simpa using hT2, by simp⟩ ?_
  rintro n σ ⟨j, v, hj, rfl, hv, ht2, rfl⟩
  have wj : IntKind.i64.wrap ((j : Int) + 1) = j + 1 := wrapI (by omega) (by omega)
  by_cases h2 : j < al.length
  case neg =>
    rw [stP_end h2] at ht2
    subst ht2
    simp [h, hal, h2, sISS]
    exact ⟨ps.length - (i + 1), by omega, i + 1, by omega, rfl, v, hv, ht, by simp [wi]⟩
  rw [stP_drop h2] at ht2
  have hlj := hli.2 j h2
  have hsr := hsa al[j] (List.getElem_mem h2)
  generalize hrw : al[j] = row at *
  have hlr := hlj.1
  simp [h, hal, h2, hrw, sISS, sIS]
  generalize hT3 : stRow e i row v = T3 at ht2
  refine awp_loop (fun n σ => ∃ (k : Nat) (v : List Nat), k ≤ row.length ∧ n = row.length - k ∧ VOk ps.length v ∧ stRow e i (row.drop k) v = T3 ∧ σ = ⟨[(1, .one (.pt 1 1 [] 0 0)), (3, .one (.vw 3 1 3 [] 0 (bitsF e 20).length)), (4, .one (.vw 34 1 4 [] 0 ps.length)), (5, aI m), (6, aI i), (7, aI j), (8, .one (.ar false 0 1 (row.map rI))), (9, aI k)], [(1, ⟨39, 1, [[.ar false 0 1 (ps.map sISS)]]⟩), (3, ⟨3, 1, (bitsF e 20).map rI⟩), (4, ⟨34, 1, v.map rB⟩)]⟩) (row.length) ⟨0, v, by omega, rfl, hv, by simpa using hT3, by simp⟩ ?_
  rintro n σ ⟨k, v, hk, rfl, hv, ht3, rfl⟩
  by_cases h3 : k < row.length
  case neg =>
    rw [stRow_end h3] at ht3
    subst ht3
    simp [h3]
    exact ⟨al.length - (j + 1), by omega, j + 1, by omega, rfl, v, hv, ht2, by simp [wj]⟩
  have wk : IntKind.i64.wrap ((k : Int) + 1) = k + 1 := wrapI (by omega) (by omega)
  rw [stRow_drop h3] at ht3
  have hsx := hsr row[k] (List.getElem_mem h3)
  generalize hx : row[k] = x at *
  simp [h3, hx]
  by_cases c2 : 100 ≤ x
  case neg =>
    rw [if_neg c2] at ht3
    subst ht3
    simp [c2]
    exact ⟨al.length - (j + 1), by omega, j + 1, by omega, rfl, v, hv, ht2, by simp [wj]⟩
  rw [if_pos c2] at ht3
  have hpx := hsx c2
  have hil : i < v.length := by rw [hv.1]; exact h
  have hxl : prt x < v.length := by rw [hv.1]; exact hpx
  have wx : IntKind.i64.wrap (x - 100) = ((prt x : Nat) : Int) := by rw [wrapI (by omega) (by unfold prt at hpx; omega)]; unfold prt; omega
  have hvi := hv.2 i
  have hvx := hv.2 (prt x)
  rw [getD_at hil] at hvi
  rw [getD_at hxl] at hvx
  have hup : upd v i (prt x) = v.set i (v[i] ||| (2 ^ prt x ||| v[prt x])) := by rw [upd, getD_at hil, getD_at hxl]
  have hvo := vok_upd hv h hpx
  rw [hup] at hvo ht3
  have hset := rB_set v i (v[i] ||| (2 ^ prt x ||| v[prt x]))
  obtain ⟨a, ha⟩ : ∃ a, v[i] = a := ⟨_, rfl⟩
  obtain ⟨b, hb⟩ : ∃ b, v[prt x] = b := ⟨_, rfl⟩
  rw [ha] at hvi
  rw [hb] at hvx
  rw [ha, hb] at hvo ht3 hset
  have hb1 := bits_len a
  have hb2 := bits_len b
  have hsa := h_spec_SetAdd (bitsF a 20) (prt x) (by omega)
  have hsl := setAdd_len (bitsF a 20) (prt x)
  have hsj := h_spec_SetJoin (setAdd (bitsF a 20) (prt x)) (bitsF b 20) (by omega) (by omega)
  rw [join20 (by omega) (Nat.lt_of_lt_of_le hvx (Nat.pow_le_pow_right (by omega) hn.2))] at hsj
  have hh := h_spec_SetHas (bitsF e 20) (prt x) (by omega)
  rw [mem_bits20 hle (by omega), Int.toNat_natCast] at hh
  have hpv : (prt x : Int) < (ps.length : Int) := by omega
  simp only [rB] at hset
  simp [c2, wx, h3, hx, hpx, h, hil, hxl, rB, ha, hb]
  refine callG_F hsa (by simp) ?_
  simp [hxl, rB, ha, hb]
  refine callG_F hsj (by simp) ?_
  simp [hil, hxl, rB, h, hset, -List.map_set]
  refine callG_F hh (by simp) ?_
  cases c3 : e.testBit (prt x) with
  | false =>
    rw [c3] at ht3
    simp at ht3
    subst ht3
    simp
    exact ⟨al.length - (j + 1), by omega, j + 1, by omega, rfl, _, hvo, ht2, by simp [wj, rB, -List.map_set]; exact hset⟩
  | true =>
    rw [c3] at ht3
    simp at ht3
    simp
    exact ⟨row.length - (k + 1), by omega, k + 1, by omega, rfl, _, hvo, ht3, by simp [wk, rB, -List.map_set]; exact hset⟩
end Go.Am
-- StartsOf
namespace Go.Am
open Go.Proofs
set_option maxHeartbeats 4000000
set_option maxRecDepth 100000
attribute [-simp] BitVec.toNat_or BitVec.toNat_and BitVec.toNat_ofInt
attribute [-simp] cS_t cS_f
theorem nulIn_take {e i : Nat} {row : List Int} (h : i < row.length) : nulIn e (row.take (i + 1)) = (nulIn e (row.take i) && (decide (100 ≤ row[i]) && e.testBit (prt row[i]))) := by
  unfold nulIn; exact all_step h
/-- What is left of a row: it goes on as long as all that came can be nothing. -/
def leftRow (e k : Nat) (row : List Int) (i : Nat) (v : List Nat) : List Nat := if nulIn e (row.take i) = true then stRow e k (row.drop i) v else v
theorem left_end {e k i : Nat} {row : List Int} {v : List Nat} (h : ¬ i < row.length) : leftRow e k row i v = v := by
  unfold leftRow; rw [stRow_end h]; split <;> rfl
theorem left_step {e k i : Nat} {row : List Int} {v : List Nat} (h : i < row.length) : leftRow e k row i v = if 100 ≤ row[i] ∧ nulIn e (row.take i) = true then leftRow e k row (i + 1) (upd v k (prt row[i])) else leftRow e k row (i + 1) v := by
  unfold leftRow
  rw [nulIn_take h, stRow_drop h]
  cases nulIn e (row.take i) with
  | false => simp
  | true =>
    by_cases c : 100 ≤ row[i]
    · simp only [c, true_and, if_true, decide_true, Bool.true_and]
    · simp [c]
theorem orV {a b x : Nat} (ha : a < 2 ^ 20) (hb : b < 2 ^ 20) (hx : 100 ≤ (x : Int) + 100) (hx2 : x < 20) :
    IntKind.u32.wrap ((BitVec.ofInt IntKind.u32.bits (a : Int) ||| BitVec.ofInt IntKind.u32.bits (IntKind.u32.wrap ((BitVec.ofInt IntKind.u32.bits (IntKind.u32.wrap (2 ^ min (IntKind.u64.wrap (x : Int)).toNat IntKind.u32.bits)) ||| BitVec.ofInt IntKind.u32.bits (b : Int)).toNat : Int))).toNat : Int) = ((a ||| (2 ^ x ||| b) : Nat) : Int) := by
  have h1 : IntKind.u64.wrap (x : Int) = x := wrapU64 (by omega) (by omega)
  have h2 := shlU (x := (x : Int)) (by omega) (by omega)
  rw [Int.one_mul] at h2
  have hp : 2 ^ x < 2 ^ 20 := Nat.pow_lt_pow_right (by omega) hx2
  have h3 := orU (a := 2 ^ x) (b := b) (by omega) (by omega)
  have h4 := orU (a := a) (b := 2 ^ x ||| b) (by omega) (Nat.lt_of_lt_of_le (Nat.or_lt_two_pow hp hb) (by omega))
  rw [h1, h2, Int.toNat_natCast]
  simp only [BitVec.ofInt_natCast]
  rw [h3]
  simp only [BitVec.ofInt_natCast]
  rw [h4]
/-- What has grown is not what it was. -/
def vsub (v w : List Nat) : Prop := ∀ k, sub (v.getD k 0) (w.getD k 0)
theorem vsub_refl (v : List Nat) : vsub v v := fun _ => sub_refl _
theorem vsub_trans {a b c : List Nat} (h : vsub a b) (h2 : vsub b c) : vsub a c := fun k => sub_trans (h k) (h2 k)
theorem vsub_upd {n k x : Nat} {v : List Nat} (hv : VOk n v) (hk : k < n) : vsub v (upd v k x) := fun j => by
  rw [upd, getD_set (by rw [hv.1]; exact hk)]
  by_cases e : j = k
  · subst e; rw [if_pos rfl]; exact sub_or _ _
  · rw [if_neg e]; exact sub_refl _
theorem vsub_row {e n k : Nat} (hk : k < n) : ∀ {row : List Int} {v : List Nat}, (∀ x ∈ row, 100 ≤ x → prt x < n) → VOk n v → vsub v (stRow e k row v) ∧ ∀ j, j ≠ k → (stRow e k row v).getD j 0 = v.getD j 0
  | [], v, _, _ => ⟨vsub_refl _, fun _ _ => rfl⟩
  | x :: r, v, hs, h => by
    simp only [stRow]
    have hot : ∀ j, j ≠ k → (upd v k (prt x)).getD j 0 = v.getD j 0 := fun j hj => by rw [upd, getD_set (by rw [h.1]; exact hk), if_neg hj]
    by_cases hx : 100 ≤ x
    · rw [if_pos hx]
      have h2 := vok_upd h hk (hs x (List.mem_cons_self ..) hx)
      have h3 := vsub_upd (x := prt x) h hk
      split
      · obtain ⟨h4, h5⟩ := vsub_row hk (fun y hy => hs y (List.mem_cons_of_mem _ hy)) h2
        exact ⟨vsub_trans h3 h4, fun j hj => (h5 j hj).trans (hot j hj)⟩
      · exact ⟨h3, hot⟩
    · rw [if_neg hx]; exact ⟨vsub_refl _, fun _ _ => rfl⟩
theorem vsub_P {e n k : Nat} {al : List (List Int)} {v : List Nat} (hk : k < n) (hs : ∀ row ∈ al, ∀ x ∈ row, 100 ≤ x → prt x < n) (h : VOk n v) : vsub v (stP e k al v) ∧ ∀ j, j ≠ k → (stP e k al v).getD j 0 = v.getD j 0 :=
  ⟨(foldl_ind (I := VOk n) (R := vsub) (fun _ _ => vsub_refl _) (fun _ _ _ => vsub_trans) (fun row v hr h => ⟨vok_row hk (hs row hr) h, (vsub_row hk (hs row hr) h).1⟩) h).2,
   (foldl_ind (I := VOk n) (R := fun v w => ∀ j, j ≠ k → w.getD j 0 = v.getD j 0) (fun _ _ _ _ => rfl) (fun _ _ _ h1 h2 j hj => (h2 j hj).trans (h1 j hj)) (fun row v hr h => ⟨vok_row hk (hs row hr) h, (vsub_row hk (hs row hr) h).2⟩) h).2⟩
theorem vec_ext {n : Nat} {v w : List Nat} (hv : VOk n v) (hw : VOk n w) (h : ∀ k, v.getD k 0 = w.getD k 0) : v = w := by
  apply List.ext_getElem
  · rw [hv.1, hw.1]
  · intro k h1 h2
    have := h k
    rwa [getD_at h1, getD_at h2] at this
theorem sub_anti {a b : Nat} (h : sub a b) (h2 : sub b a) : a = b := Nat.eq_of_testBit_eq fun i => by
  cases ha : a.testBit i with
  | true => rw [h i ha]
  | false =>
    cases hb : b.testBit i with
    | true => rw [h2 i hb] at ha; cases ha
    | false => rfl
def neqV (v w : List Nat) : Bool := decide (v ≠ w)
theorem neqV_self (v : List Nat) : neqV v v = false := by simp [neqV]
theorem neqV_t {v w : List Nat} (h : neqV v w = true) : v ≠ w := of_decide_eq_true h
theorem neqV_f {v w : List Nat} (h : neqV v w = false) : v = w := Classical.byContradiction (of_decide_eq_false h)
/-- Has something turned so far? -/
theorem more_step {e n k : Nat} {al : List (List Int)} {v0 v : List Nat} (hk : k < n) (hs : ∀ row ∈ al, ∀ x ∈ row, 100 ≤ x → prt x < n) (h0 : VOk n v0) (hv : VOk n v) (hsub : vsub v0 v) :
    (neqV v v0 || decide ((stP e k al v).getD k 0 ≠ v.getD k 0)) = neqV (stP e k al v) v0 := by
  obtain ⟨h1, h2⟩ := vsub_P (e := e) hk hs hv
  have hv2 := vok_P (e := e) hk hs hv
  unfold neqV
  rw [Bool.eq_iff_iff, Bool.or_eq_true, decide_eq_true_iff, decide_eq_true_iff, decide_eq_true_iff]
  constructor
  · rintro (h | h) heq
    · apply h
      rw [heq] at h1
      exact vec_ext hv h0 fun j => sub_anti (h1 j) (hsub j)
    · apply h
      rw [heq] at h1 ⊢
      exact sub_anti (hsub k) (h1 k)
  · intro h
    by_cases hvv : v = v0
    · right
      intro heq
      apply h
      rw [← hvv]
      refine vec_ext hv2 hv fun j => ?_
      by_cases hj : j = k
      · rw [hj]; exact heq
      · exact h2 j hj
    · exact .inl hvv
end Go.Am
-- StartsOf2
namespace Go.Am
open Go.Proofs
set_option maxHeartbeats 4000000
set_option maxRecDepth 100000
attribute [-simp] BitVec.toNat_or BitVec.toNat_and BitVec.toNat_ofInt
attribute [-simp] cS_t cS_f
theorem shrs_take (k : Nat) (xs : List Int) : shrRows ((xs.map rI).take k) = (xs.map rI).take k := by rw [← List.map_take, shrs_rI]
-- 148 loop.example/g00485/impl.startsOf
def k_impl_startsOf : K :=
 .seq (
  .reg none [⟨(some 1), none, .box 39 1 (.t 0)⟩,
    ⟨(some 2), none, .alc 191 20 [(.int .u32 (0)), (.int .u32 (0)), (.int .u32 (0)), (.int .u32 (0)), (.int .u32 (0)), (.int .u32 (0)), (.int .u32 (0)), (.int .u32 (0)), (.int .u32 (0)), (.int .u32 (0)), (.int .u32 (0)), (.int .u32 (0)), (.int .u32 (0)), (.int .u32 (0)), (.int .u32 (0)), (.int .u32 (0)), (.int .u32 (0)), (.int .u32 (0)), (.int .u32 (0)), (.int .u32 (0))]⟩]) (
 .seq (
  .reg none [⟨(some 13), none, .ld 1 true (.t 1)⟩,
    ⟨(some 14), none, .call 174 [(.t 13)]⟩,
    ⟨(some 3), none, .asn (.t 14)⟩]) (
 .seq (
  .reg none [⟨(some 4), none, .alc 191 20 [(.int .u32 (0)), (.int .u32 (0)), (.int .u32 (0)), (.int .u32 (0)), (.int .u32 (0)), (.int .u32 (0)), (.int .u32 (0)), (.int .u32 (0)), (.int .u32 (0)), (.int .u32 (0)), (.int .u32 (0)), (.int .u32 (0)), (.int .u32 (0)), (.int .u32 (0)), (.int .u32 (0)), (.int .u32 (0)), (.int .u32 (0)), (.int .u32 (0)), (.int .u32 (0)), (.int .u32 (0))]⟩]) (
 .seq (
  .seq (
   .reg none [⟨(some 5), none, .asn (.c (.bool true))⟩]) (
  .block 0 (
   .loop (some ([1, 2, 3, 4, 5], [1, 2, 3, 4, 5, 1000])) (
    .seq (
     .seq (
      .reg none [⟨(some 15), none, .mv (.t 5)⟩]) (
     .cond (.t 15) (
      .skip) (
      .exit 0))) (
    .block 1 (
     .seq (
      .reg none [⟨(some 5), none, .asn (.c (.bool false))⟩]) (
     .seq (
      .reg none [⟨(some 16), none, .fad 0 (.t 1)⟩,
        ⟨(some 17), none, .ld 1 false (.t 16)⟩,
        ⟨(some 18), none, .len (.t 17)⟩,
        ⟨(some 19), none, .mv (.c (.int .i64 (0)))⟩]) (
     .block 2 (
      .loop (some ([1, 2, 3, 4, 5, 17, 18, 19], [1, 2, 3, 4, 5, 1000])) (
       .seq (
        .reg none [⟨(some 20), none, .bin .lss (.t 19) (.t 18)⟩]) (
       .seq (
        .cond (.t 20) (
         .skip) (
         .exit 2)) (
       .seq (
        .block 3 (
         .seq (
          .reg none [⟨(some 21), none, .mv (.t 19)⟩,
            ⟨(some 22), none, .iad 1 (.t 17) (.t 19)⟩,
            ⟨(some 23), none, .ld 1 false (.t 22)⟩,
            ⟨(some 6), none, .asn (.t 21)⟩,
            ⟨(some 7), none, .asn (.t 23)⟩]) (
         .seq (
          .reg none [⟨(some 24), none, .mv (.t 6)⟩,
            ⟨(some 25), none, .iaa 20 1 (.t 4) (.t 24)⟩,
            ⟨(some 26), none, .ld 1 false (.t 25)⟩,
            ⟨(some 8), none, .asn (.t 26)⟩]) (
         .seq (
          .seq (
           .reg none [⟨(some 27), none, .mv (.t 7)⟩,
             ⟨(some 28), none, .len (.t 27)⟩,
             ⟨(some 29), none, .mv (.c (.int .i64 (0)))⟩]) (
          .block 4 (
           .loop (some ([1, 2, 3, 4, 5, 6, 8, 17, 18, 19, 27, 28, 29], [1, 2, 3, 4, 5, 6, 7, 8, 1000])) (
            .seq (
             .reg none [⟨(some 30), none, .bin .lss (.t 29) (.t 28)⟩]) (
            .seq (
             .cond (.t 30) (
              .skip) (
              .exit 4)) (
            .seq (
             .block 5 (
              .seq (
               .reg none [⟨(some 31), none, .iad 1 (.t 27) (.t 29)⟩,
                 ⟨(some 32), none, .ld 1 false (.t 31)⟩,
                 ⟨(some 10), none, .asn (.t 32)⟩]) (
              .seq (
               .reg none [⟨(some 33), none, .mv (.t 10)⟩,
                 ⟨(some 34), none, .len (.t 33)⟩,
                 ⟨(some 35), none, .mv (.c (.int .i64 (0)))⟩]) (
              .block 6 (
               .loop (some ([1, 2, 3, 4, 5, 6, 8, 10, 17, 18, 19, 27, 28, 29, 33, 34, 35], [1, 2, 3, 4, 5, 6, 7, 8, 10, 1000])) (
                .seq (
                 .reg none [⟨(some 36), none, .bin .lss (.t 35) (.t 34)⟩]) (
                .seq (
                 .cond (.t 36) (
                  .skip) (
                  .exit 6)) (
                .seq (
                 .block 7 (
                  .seq (
                   .reg none [⟨(some 37), none, .mv (.t 35)⟩,
                     ⟨(some 38), none, .iad 1 (.t 33) (.t 35)⟩,
                     ⟨(some 39), none, .ld 1 false (.t 38)⟩,
                     ⟨(some 11), none, .asn (.t 37)⟩,
                     ⟨(some 12), none, .asn (.t 39)⟩]) (
                  .seq (
                   .reg none [⟨(some 40), none, .mv (.t 12)⟩,
                     ⟨(some 41), none, .bin .geq (.t 40) (.c (.int .i64 (100)))⟩,
                     ⟨(some 42), none, .mv (.t 41)⟩,
                     ⟨(some 43), (some (42, true)), .mv (.t 10)⟩,
                     ⟨(some 44), (some (42, true)), .mv (.t 11)⟩,
                     ⟨(some 45), (some (42, true)), .slc 1 (.t 43) none (some (.t 44))⟩,
                     ⟨(some 46), (some (42, true)), .mv (.t 3)⟩,
                     ⟨(some 47), (some (42, true)), .call 175 [(.t 45), (.t 46)]⟩,
                     ⟨(some 48), none, .pick (.t 42) (.t 47) (.c (.bool false))⟩]) (
                  .cond (.t 48) (
                   .drw none 14 [⟨(some 49), none, .mv (.t 6)⟩,
                     ⟨(some 50), none, .iaa 20 1 (.t 4) (.t 49)⟩,
                     ⟨(some 51), none, .ld 1 false (.t 50)⟩,
                     ⟨(some 52), none, .mv (.t 12)⟩,
                     ⟨(some 53), none, .bin .sub (.t 52) (.c (.int .i64 (100)))⟩,
                     ⟨(some 54), none, .conv .u64 (.t 53)⟩,
                     ⟨(some 55), none, .bin .shl (.c (.int .u32 (1))) (.t 54)⟩,
                     ⟨(some 56), none, .mv (.t 12)⟩,
                     ⟨(some 57), none, .bin .sub (.t 56) (.c (.int .i64 (100)))⟩,
                     ⟨(some 58), none, .iaa 20 1 (.t 4) (.t 57)⟩,
                     ⟨(some 59), none, .ld 1 false (.t 58)⟩,
                     ⟨(some 60), none, .bin .or (.t 55) (.t 59)⟩,
                     ⟨(some 61), none, .bin .or (.t 51) (.t 60)⟩,
                     ⟨(some 62), none, .iaa 20 1 (.t 4) (.t 49)⟩,
                     ⟨none, none, .st 1 false (.t 62) (.t 61)⟩]) (
                   .skip))))) (
                .reg none [⟨(some 63), none, .bin .add (.t 35) (.c (.int .i64 (1)))⟩,
                  ⟨(some 35), none, .mv (.t 63)⟩]))))))))) (
            .reg none [⟨(some 64), none, .bin .add (.t 29) (.c (.int .i64 (1)))⟩,
              ⟨(some 29), none, .mv (.t 64)⟩]))))))) (
         .reg none [⟨(some 65), none, .mv (.t 5)⟩,
           ⟨(some 66), none, .mv (.t 65)⟩,
           ⟨(some 67), (some (66, false)), .mv (.t 6)⟩,
           ⟨(some 68), (some (66, false)), .iaa 20 1 (.t 4) (.t 67)⟩,
           ⟨(some 69), (some (66, false)), .ld 1 false (.t 68)⟩,
           ⟨(some 70), (some (66, false)), .mv (.t 8)⟩,
           ⟨(some 71), (some (66, false)), .bin .neq (.t 69) (.t 70)⟩,
           ⟨(some 72), none, .pick (.t 66) (.c (.bool true)) (.t 71)⟩,
           ⟨(some 5), none, .asn (.t 72)⟩]))))) (
       .reg none [⟨(some 73), none, .bin .add (.t 19) (.c (.int .i64 (1)))⟩,
         ⟨(some 19), none, .mv (.t 73)⟩]))))))))))))) (
 .seq (
  .reg none [⟨(some 74), none, .ld 20 true (.t 4)⟩,
    ⟨none, none, .st 20 false (.t 2) (.t 74)⟩]) (
 .ret)))))
def r_impl_startsOf : Nat × List RV := (75, [.c 2 20 true])

theorem c_impl_startsOf : cmpS PT PF PA (Try.prog.funcs[148]?) = some (r_impl_startsOf.1, r_impl_startsOf.2, stripK k_impl_startsOf) := by kernel_rfl

set_option maxRecDepth 200000 in
theorem h_startsOf (g : TGram) (hg : gramOk g = true) (hw : wGram g < 2 ^ 31) (hl : lGram g) : CallsF Try.prog 148 [.agg (sGram g)] (.agg (row20 (starts g.parts))) := by
  refine Prun c_impl_startsOf (by simp [r_impl_startsOf]) (by simp) ?_
  unfold k_impl_startsOf r_impl_startsOf
  have hn := len_of hg
  have hs := symsOk_of hg
  have hem := h_empties g hg hw
  have hle : empties g.parts < 2 ^ 20 := Nat.lt_of_lt_of_le (grows_iter (passP_grows (ps := g.parts) fun k al hk _ => setP_grows nulIn hk al) (Nat.two_pow_pos _) _) (Nat.pow_le_pow_right (by omega) hn.2)
  obtain ⟨ps⟩ := g
  simp only [wGram] at hw
  simp only [lGram] at hl
  simp only [sGram] at hem
  simp only at hn hs hle
  have hln := wL_len (wL (wL w0)) ps
  have hvk := fun m => vok_iter (e := empties ps) hs m
  have hrest := starts_rest (e := empties ps) hs
  simp only [starts]
  generalize empties ps = e at *
  have hz : [C.int .u32 0, C.int .u32 0, C.int .u32 0, C.int .u32 0, C.int .u32 0, C.int .u32 0, C.int .u32 0, C.int .u32 0, C.int .u32 0, C.int .u32 0, C.int .u32 0, C.int .u32 0, C.int .u32 0, C.int .u32 0, C.int .u32 0, C.int .u32 0, C.int .u32 0, C.int .u32 0, C.int .u32 0, C.int .u32 0] = row20 (List.replicate ps.length 0) := by rw [row20_zero]; rfl
  have hst : ∀ m, passP (stP e) 0 ps (iter (passP (stP e) 0 ps) m (List.replicate ps.length 0)) = iter (passP (stP e) 0 ps) m (List.replicate ps.length 0) → iter (passP (stP e) 0 ps) m (List.replicate ps.length 0) = iter (passP (stP e) 0 ps) (ps.length + 1) (List.replicate ps.length 0) := fun m h => rest_eq hrest h
  have hv20 : ∀ {v : List Nat}, VOk ps.length v → ∀ k, v.getD k 0 < 2 ^ 20 := fun h k => Nat.lt_of_lt_of_le (h.2 k) (Nat.pow_le_pow_right (by omega) hn.2)
  rw [hz]
  simp [sGram]
  refine callG_F hem (by simp) ?_
  simp
  refine awp_loop (fun n σ => ∃ (m : Nat) (more : Bool), m ≤ ps.length + 1 ∧ n = ps.length + 2 - m ∧ (more = true → m ≤ ps.length) ∧ (more = false → iter (passP (stP e) 0 ps) m (List.replicate ps.length 0) = iter (passP (stP e) 0 ps) (ps.length + 1) (List.replicate ps.length 0)) ∧ σ = ⟨[(1, .one (.pt 1 1 [] 0 0)), (2, .one (.pt 20 2 [] 0 0)), (3, aU e), (4, .one (.pt 20 4 [] 0 0)), (5, aB more)], [(1, ⟨39, 1, [[.ar false 0 1 (ps.map sISS)]]⟩), (2, ⟨191, 20, [row20 (List.replicate ps.length 0)]⟩), (4, ⟨191, 20, [row20 (iter (passP (stP e) 0 ps) m (List.replicate ps.length 0))]⟩)]⟩) (ps.length + 2) ⟨0, true, by omega, rfl, fun _ => by omega, fun h => by (cases h), by simp [iter]⟩ ?_
  rintro n σ ⟨m, more, hm, rfl, hmt, hmf, rfl⟩
  cases more with
  | false =>
    have := hmf rfl
    rw [this]
    generalize iter (passP (stP e) 0 ps) (ps.length + 1) (List.replicate ps.length 0) = vf
    simp [row20_take, row20_plain]
  | true =>
  have hmn := hmt rfl
  clear hmt hmf
  have hvm := hvk m
  have hvm1 := hvk (m + 1)
  have hpm : passP (stP e) 0 ps (iter (passP (stP e) 0 ps) m (List.replicate ps.length 0)) = iter (passP (stP e) 0 ps) (m + 1) (List.replicate ps.length 0) := rfl
  have hstm := hst m
  have hne : iter (passP (stP e) 0 ps) (m + 1) (List.replicate ps.length 0) ≠ iter (passP (stP e) 0 ps) m (List.replicate ps.length 0) → m + 1 ≤ ps.length := fun h => by
    rcases Nat.lt_or_ge m ps.length with h1 | h1
    · omega
    · have : m = ps.length := by omega
      subst this; exact absurd hrest h
  generalize hT : iter (passP (stP e) 0 ps) (m + 1) (List.replicate ps.length 0) = T at *
  generalize iter (passP (stP e) 0 ps) m (List.replicate ps.length 0) = v0 at *
  simp
  refine awp_loop (fun n σ => ∃ (i : Nat) (v : List Nat), i ≤ ps.length ∧ n = ps.length - i ∧ VOk ps.length v ∧ vsub v0 v ∧ passP (stP e) i (ps.drop i) v = T ∧ σ = ⟨[(1, .one (.pt 1 1 [] 0 0)), (2, .one (.pt 20 2 [] 0 0)), (3, aU e), (4, .one (.pt 20 4 [] 0 0)), (5, aB (neqV v v0)), (17, .one (.ar false 0 1 (ps.map sISS))), (18, aI ps.length), (19, aI i)], [(1, ⟨39, 1, [[.ar false 0 1 (ps.map sISS)]]⟩), (2, ⟨191, 20, [row20 (List.replicate ps.length 0)]⟩), (4, ⟨191, 20, [row20 v]⟩)]⟩) (ps.length) ⟨0, v0, by omega, rfl, hvm, vsub_refl _, by simpa using hpm, by simp [neqV_self]⟩ ?_
  rintro n σ ⟨i, v, hi, rfl, hv, hsv, ht, rfl⟩
  have wi : IntKind.i64.wrap ((i : Int) + 1) = i + 1 := wrapI (by omega) (by omega)
  by_cases h : i < ps.length
  case neg =>
    rw [passP_end h] at ht
    subst ht
    simp [h]
    refine ⟨ps.length + 2 - (m + 1), by omega, m + 1, by omega, rfl, ?_⟩
    rw [hT]
    cases hb : neqV v v0 with
    | true => exact .inr ⟨hne (neqV_t hb), rfl, rfl⟩
    | false =>
      have hvv := neqV_f hb
      subst hvv
      exact .inl ⟨hstm hpm, rfl, rfl⟩
  rw [passP_drop h] at ht
  have hli := hl.2 i h
  have hsa := hs ps[i] (List.getElem_mem h)
  have hwa := wL_get (wL (wL w0)) ps i h
  generalize hal : ps[i] = al at *
  have hla := wL_len (wL w0) al
  have hmore := more_step (e := e) h hsa hvm hv hsv
  have hvsP := (vsub_P (e := e) h hsa hv).1
  have hsv2 := vsub_trans hsv hvsP
  have hi20 : (i : Int) < 20 := by omega
  have hi20' : i < 20 := by omega
  have hi20'' : i + 1 ≤ 20 := by omega
  have hil : i < v.length := by rw [hv.1]; exact h
  have hg1 := row20_get (v := v) hi20'
  rw [getD_at hil] at hg1 hmore
  simp [h, hal, sISS, hi20, hi20', hi20'', hg1]
  generalize hT2 : stP e i al v = T2 at *
  generalize neqV v v0 = b1 at *
  generalize v[i] = a0 at *
  refine awp_loop (fun n σ => ∃ (j : Nat) (v : List Nat), j ≤ al.length ∧ n = al.length - j ∧ VOk ps.length v ∧ stP e i (al.drop j) v = T2 ∧ σ = ⟨[(1, .one (.pt 1 1 [] 0 0)), (2, .one (.pt 20 2 [] 0 0)), (3, aU e), (4, .one (.pt 20 4 [] 0 0)), (5, aB b1), (6, aI i), (8, aU a0), (17, .one (.ar false 0 1 (ps.map sISS))), (18, aI ps.length), (19, aI i), (27, .one (.ar false 0 1 (al.map sIS))), (28, aI al.length), (29, aI j)], [(1, ⟨39, 1, [[.ar false 0 1 (ps.map sISS)]]⟩), (2, ⟨191, 20, [row20 (List.replicate ps.length 0)]⟩), (4, ⟨191, 20, [row20 v]⟩)]⟩) (al.length) ⟨0, v, by omega, rfl, hv, by simpa using hT2, by simp⟩ ?_
  clear hil hg1 hvsP hsv
  rintro n σ ⟨j, v, hj, rfl, hv, ht2, rfl⟩
  have wj : IntKind.i64.wrap ((j : Int) + 1) = j + 1 := wrapI (by omega) (by omega)
  by_cases h2 : j < al.length
  case neg =>
    rw [stP_end h2] at ht2
    subst ht2
    have hil : i < v.length := by rw [hv.1]; exact h
    have hg1 := row20_get (v := v) hi20'
    rw [getD_at hil] at hg1 hmore
    generalize hvi : v[i] = a at *
    cases b1 with
    | true =>
      simp at hmore
      simp [h2]
      exact ⟨ps.length - (i + 1), by omega, i + 1, by omega, rfl, v, hv, hsv2, ht, by simp [wi, ← hmore]⟩
    | false =>
      have hmore' : decide (¬ (a : Int) = a0) = neqV v v0 := by
        rw [← hmore]; simp; omega
      simp [h2, hi20, hi20', hi20'', hg1]
      exact ⟨ps.length - (i + 1), by omega, i + 1, by omega, rfl, v, hv, hsv2, ht, by simp [wi, ← hmore']⟩
  rw [stP_drop h2] at ht2
  have hlj := hli.2 j h2
  have hsr := hsa al[j] (List.getElem_mem h2)
  generalize hrw : al[j] = row at *
  have hlr := hlj.1
  simp [h2, hrw, sIS]
  generalize hT3 : stRow e i row v = T3 at ht2
  have hT3b : leftRow e i row 0 v = T3 := by rw [← hT3]; simp [leftRow, nulIn]
  clear hT3
  refine awp_loop (fun n σ => ∃ (k : Nat) (v : List Nat), k ≤ row.length ∧ n = row.length - k ∧ VOk ps.length v ∧ leftRow e i row k v = T3 ∧ σ = ⟨[(1, .one (.pt 1 1 [] 0 0)), (2, .one (.pt 20 2 [] 0 0)), (3, aU e), (4, .one (.pt 20 4 [] 0 0)), (5, aB b1), (6, aI i), (8, aU a0), (10, .one (.ar false 0 1 (row.map rI))), (17, .one (.ar false 0 1 (ps.map sISS))), (18, aI ps.length), (19, aI i), (27, .one (.ar false 0 1 (al.map sIS))), (28, aI al.length), (29, aI j), (33, .one (.ar false 0 1 (row.map rI))), (34, aI row.length), (35, aI k)], [(1, ⟨39, 1, [[.ar false 0 1 (ps.map sISS)]]⟩), (2, ⟨191, 20, [row20 (List.replicate ps.length 0)]⟩), (4, ⟨191, 20, [row20 v]⟩)]⟩) (row.length) ⟨0, v, by omega, rfl, hv, hT3b, by simp⟩ ?_
  rintro n σ ⟨k, v, hk, rfl, hv, ht3, rfl⟩
  by_cases h3 : k < row.length
  case neg =>
    rw [left_end h3] at ht3
    subst ht3
    simp [h3]
    exact ⟨al.length - (j + 1), by omega, j + 1, by omega, rfl, v, hv, ht2, by simp [wj]⟩
  have wk : IntKind.i64.wrap ((k : Int) + 1) = k + 1 := wrapI (by omega) (by omega)
  rw [left_step h3] at ht3
  have hsx := hsr row[k] (List.getElem_mem h3)
  have hempt := h_emptyIn (row.take k) e hle (by rw [List.length_take]; omega)
  generalize hx : row[k] = x at *
  have hkr : k ≤ row.length := by omega
  simp [h3, hx]
  by_cases c2 : 100 ≤ x
  case neg =>
    rw [if_neg (fun h => c2 h.1)] at ht3
    simp [c2]
    exact ⟨row.length - (k + 1), by omega, k + 1, by omega, rfl, v, hv, ht3, by simp [wk]⟩
  rw [List.map_take] at hempt
  simp [c2, hkr, shrs_take]
  refine callG_F hempt (by simp) ?_
  cases c3 : nulIn e (row.take k) with
  | false =>
    rw [c3] at ht3
    simp at ht3
    simp
    exact ⟨row.length - (k + 1), by omega, k + 1, by omega, rfl, v, hv, ht3, by simp [wk]⟩
  | true =>
  rw [c3, if_pos ⟨c2, rfl⟩] at ht3
  have hpx := hsx c2
  have hil : i < v.length := by rw [hv.1]; exact h
  have hxl : prt x < v.length := by rw [hv.1]; exact hpx
  have wx : IntKind.i64.wrap (x - 100) = ((prt x : Nat) : Int) := by rw [wrapI (by omega) (by unfold prt at hpx; omega)]; unfold prt; omega
  have hvi := hv20 hv i
  have hvx := hv20 hv (prt x)
  have hp20 : (prt x : Int) < 20 := by omega
  have hp20' : prt x < 20 := by omega
  have hp20'' : prt x + 1 ≤ 20 := by omega
  have hg1 := row20_get (v := v) hi20'
  have hg2 := row20_get (v := v) hp20'
  have hup : upd v i (prt x) = v.set i (v[i] ||| (2 ^ prt x ||| v[prt x])) := by rw [upd, getD_at hil, getD_at hxl]
  have hvo := vok_upd hv h hpx
  rw [hup] at hvo ht3
  rw [getD_at hil] at hg1 hvi
  rw [getD_at hxl] at hg2 hvx
  have hset := row20_set (v := v) (m := v[i] ||| (2 ^ prt x ||| v[prt x])) hi20' hil
  generalize v[i] = a at *
  generalize v[prt x] = b at *
  have hor := orV hvi hvx (x := prt x) (by omega) hp20'
  have n64 : ¬ IntKind.u64.wrap (prt x : Int) < 0 := by rw [wrapU64 (by omega) (by omega)]; omega
  simp [wx, hi20, hi20', hi20'', hg1, hp20, hp20', hp20'', hg2, intShift, n64, -BitVec.ofInt_natCast, hor, hset, row20_scal]
  exact ⟨row.length - (k + 1), by omega, k + 1, by omega, rfl, _, hvo, ht3, by simp [wk]⟩
end Go.Am
-- SpecCheck3
namespace Go.Am
open Go.Proofs
set_option maxHeartbeats 4000000
set_option maxRecDepth 100000
attribute [-simp] BitVec.toNat_or BitVec.toNat_and BitVec.toNat_ofInt
attribute [-simp] cS_t cS_f row20_len row20_sc row20_view row20_store row20_aff row20_ref row20_noSh row20_shr row20_lend row20_take row20_drop
theorem starts_ok {g : TGram} (hg : gramOk g = true) : VOk g.parts.length (starts g.parts) := vok_iter (symsOk_of hg) _
theorem any_step {p : Nat → Bool} {n i : Nat} (h : i < n) : (List.range' i (n - i)).any p = (p i || (List.range' (i + 1) (n - (i + 1))).any p) := by
  rw [show n - i = (n - (i + 1)) + 1 by omega, List.range'_succ, List.any_cons]
theorem prods_lt {g : TGram} (hg : gramOk g = true) : prods g.parts < 2 ^ g.parts.length := grows_iter (passP_grows fun k al hk _ => setP_grows prdIn hk al) (Nat.two_pow_pos _) _
theorem rchs_lt {g : TGram} (hg : gramOk g = true) : rchs g.parts < 2 ^ g.parts.length :=
  grows_iter (passP_grows fun k al hk hm => rchP_grows (symsOk_of hg al hm)) (Nat.one_lt_two_pow (by have := len_of hg; omega)) _
theorem pop_more {f n : Nat} (hf : f < 2 ^ n) : ∀ d, pop f (n + d) = pop f n
  | 0 => rfl
  | d + 1 => by
    have hb : f.testBit (n + d) = false := Nat.testBit_lt_two_pow (Nat.lt_of_lt_of_le hf (Nat.pow_le_pow_right (by omega) (by omega)))
    rw [← Nat.add_assoc, pop, hb, pop_more hf d]; simp
theorem few_iff {f n : Nat} (hn : n ≤ 20) (hf : f < 2 ^ n) : ((bitsF f 20).length : Int) < n ↔ f ≠ 2 ^ n - 1 := by
  have h1 := pop_more hf (20 - n)
  rw [show n + (20 - n) = 20 by omega] at h1
  rw [bitsF_len, h1, ne_eq, ← pop_full hf]
  have := pop_le f n
  omega
-- 53 loop.example/g00485/spec.Check
def k_spec_Check : K :=
 .seq (
  .reg none [⟨(some 1), none, .box 39 1 (.t 0)⟩,
    ⟨(some 2), none, .asn (.c (.int .i64 (0)))⟩]) (
 .seq (
  .seq (
   .reg none [⟨(some 5), none, .ld 1 true (.t 1)⟩,
     ⟨(some 6), none, .call 105 [(.t 5)]⟩,
     ⟨(some 7), none, .not (.t 6)⟩]) (
  .cond (.t 7) (
   .seq (
    .reg none [⟨(some 2), none, .asn (.c (.int .i64 (1)))⟩]) (
   .ret)) (
   .skip))) (
 .seq (
  .reg none [⟨(some 8), none, .ld 1 true (.t 1)⟩,
    ⟨(some 9), none, .call 106 [(.t 8)]⟩,
    ⟨(some 3), none, .asn (.t 9)⟩]) (
 .seq (
  .seq (
   .reg none [⟨(some 4), none, .asn (.c (.int .i64 (0)))⟩]) (
  .block 0 (
   .loop (some ([1, 3, 4], [1, 3, 4, 1000])) (
    .seq (
     .seq (
      .reg none [⟨(some 10), none, .mv (.t 4)⟩,
        ⟨(some 11), none, .mv (.t 3)⟩,
        ⟨(some 12), none, .len (.t 11)⟩,
        ⟨(some 13), none, .bin .lss (.t 10) (.t 12)⟩]) (
     .cond (.t 13) (
      .skip) (
      .exit 0))) (
    .seq (
     .block 1 (
      .seq (
       .reg none [⟨(some 16), none, .mv (.t 3)⟩,
         ⟨(some 17), none, .mv (.t 4)⟩,
         ⟨(some 18), none, .iad 1 (.t 16) (.t 17)⟩,
         ⟨(some 19), none, .ld 1 false (.t 18)⟩,
         ⟨(some 20), none, .mv (.t 4)⟩,
         ⟨(some 21), none, .call 107 [(.t 19), (.t 20)]⟩]) (
      .cond (.t 21) (
       .seq (
        .reg none [⟨(some 2), none, .asn (.c (.int .i64 (2)))⟩]) (
       .ret)) (
       .skip)))) (
    .reg none [⟨(some 14), none, .mv (.t 4)⟩,
      ⟨(some 15), none, .bin .add (.t 14) (.c (.int .i64 (1)))⟩,
      ⟨(some 4), none, .asn (.t 15)⟩])))))) (
 .seq (
  .seq (
   .drw none 0 [⟨(some 22), none, .ld 1 true (.t 1)⟩,
     ⟨(some 25), none, .fad 0 (.t 1)⟩,
     ⟨(some 26), none, .ld 1 false (.t 25)⟩,
     ⟨(some 27), none, .len (.t 26)⟩,
     ⟨(some 23), none, .call 108 [(.t 22)]⟩,
     ⟨(some 24), none, .len (.t 23)⟩,
     ⟨(some 28), none, .bin .lss (.t 24) (.t 27)⟩]) (
  .cond (.t 28) (
   .seq (
    .reg none [⟨(some 2), none, .asn (.c (.int .i64 (3)))⟩]) (
   .ret)) (
   .skip))) (
 .seq (
  .seq (
   .drw none 0 [⟨(some 29), none, .ld 1 true (.t 1)⟩,
     ⟨(some 32), none, .fad 0 (.t 1)⟩,
     ⟨(some 33), none, .ld 1 false (.t 32)⟩,
     ⟨(some 34), none, .len (.t 33)⟩,
     ⟨(some 30), none, .call 109 [(.t 29)]⟩,
     ⟨(some 31), none, .len (.t 30)⟩,
     ⟨(some 35), none, .bin .lss (.t 31) (.t 34)⟩]) (
  .cond (.t 35) (
   .seq (
    .reg none [⟨(some 2), none, .asn (.c (.int .i64 (4)))⟩]) (
   .ret)) (
   .skip))) (
 .seq (
  .reg none [⟨(some 2), none, .asn (.c (.int .i64 (0)))⟩]) (
 .ret)))))))
def r_spec_Check : Nat × List RV := (36, [.t 2])

theorem c_spec_Check : cmpS PT PF PA (Try.prog.funcs[53]?) = some (r_spec_Check.1, r_spec_Check.2, stripK k_spec_Check) := by kernel_rfl

theorem h_spec_Check (g : TGram) (hw : wGram g < 2 ^ 31) (hl : lGram g) : CallsF Try.prog 53 [.agg (sGram g)] (aI (checkG g)) := by
  refine Prun c_spec_Check (by simp [r_spec_Check]) (by simp) ?_
  unfold k_spec_Check r_spec_Check
  have hgo := h_spec_GramOk g hw
  have hlg := hl
  cases hg : gramOk g with
  | false =>
    rw [hg] at hgo
    obtain ⟨ps⟩ := g
    simp only [sGram] at hgo
    simp [sGram]
    refine callG_F hgo (by simp) ?_
    simp [checkG, hg]
  | true =>
  rw [hg] at hgo
  have hn := len_of hg
  have hst := h_spec_l5Starts g hg hw hl
  have hpr := h_spec_Productive g hg hw hl
  have hrc := h_spec_Reachable g hg hw hl
  have hvo := starts_ok hg
  have hp1 := few_iff hn.2 (prods_lt hg)
  have hr1 := few_iff hn.2 (rchs_lt hg)
  have hT : checkG g = if (List.range' 0 (g.parts.length - 0)).any (fun k => ((starts g.parts).getD k 0).testBit k) = true then 2 else if prods g.parts ≠ 2 ^ g.parts.length - 1 then 3 else if rchs g.parts ≠ 2 ^ g.parts.length - 1 then 4 else 0 := by
    simp only [checkG, hg, List.range_eq_range']
    rfl
  obtain ⟨ps⟩ := g
  simp only [sGram] at hgo hst hpr hrc
  simp only at hn hvo hp1 hr1 hT
  generalize checkG ⟨ps⟩ = T at *
  generalize starts ps = v at *
  generalize prods ps = fp at *
  generalize rchs ps = fr at *
  have hb1 := bits_len fp
  have hb2 := bits_len fr
  simp [sGram]
  refine callG_F hgo (by simp) ?_
  simp
  refine callG_F hst (by simp) ?_
  simp
  refine awp_loop (fun n σ => ∃ i : Nat, i ≤ ps.length ∧ n = ps.length - i ∧ T = (if (List.range' i (ps.length - i)).any (fun k => (v.getD k 0).testBit k) = true then 2 else if fp ≠ 2 ^ ps.length - 1 then 3 else if fr ≠ 2 ^ ps.length - 1 then 4 else 0) ∧ σ = ⟨[(1, .one (.pt 1 1 [] 0 0)), (3, .one (.vw 34 1 3 [] 0 v.length)), (4, aI i)], [(1, ⟨39, 1, [[.ar false 0 1 (ps.map sISS)]]⟩), (3, ⟨34, 1, v.map rB⟩)]⟩) (ps.length) ⟨0, by omega, rfl, hT, by simp⟩ ?_
  rintro n σ ⟨i, hi, rfl, ht, rfl⟩
  have wi : IntKind.i64.wrap ((i : Int) + 1) = i + 1 := wrapI (by omega) (by omega)
  by_cases h : i < ps.length
  · rw [any_step h] at ht
    have hiv : i < v.length := by rw [hvo.1]; exact h
    rw [getD_at hiv] at ht
    have hvi := hvo.2 i
    rw [getD_at hiv] at hvi
    obtain ⟨a, ha⟩ : ∃ a, v[i] = a := ⟨_, rfl⟩
    rw [ha] at ht hvi
    have hba := bits_len a
    have hh := h_spec_SetHas (bitsF a 20) i (by omega)
    rw [mem_bits20 (Nat.lt_of_lt_of_le hvi (Nat.pow_le_pow_right (by omega) hn.2)) (by omega), Int.toNat_natCast] at hh
    simp [hiv, ha, rB]
    refine callG_F hh (by simp) ?_
    cases c : a.testBit i with
    | true =>
      rw [c] at ht
      simp at ht
      simp [ht]
    | false =>
      rw [c, Bool.false_or] at ht
      simp
      exact ⟨ps.length - (i + 1), by omega, i + 1, by omega, rfl, by simpa using ht, by simp [wi]⟩
  · have : i = ps.length := by omega
    subst this
    simp only [Nat.sub_self, List.range'_zero, List.any_nil] at ht
    have hiv : ¬ ps.length < v.length := by rw [hvo.1]; omega
    simp [hvo.1]
    refine callG_F hpr (by simp) ?_
    by_cases c1 : fp = 2 ^ ps.length - 1
    case neg =>
      have := hp1.2 c1
      simp at ht
      rw [if_neg c1] at ht
      simp [this, ht]
    have n1 : ¬ ((bitsF fp 20).length : Int) < ps.length := fun h => hp1.1 h c1
    simp [n1]
    refine callG_F hrc (by simp) ?_
    by_cases c2 : fr = 2 ^ ps.length - 1
    case neg =>
      have := hr1.2 c2
      simp [c1] at ht
      rw [if_neg c2] at ht
      simp [this, ht]
    have n2 : ¬ ((bitsF fr 20).length : Int) < ps.length := fun h => hr1.1 h c2
    simp [c1, c2] at ht
    simp [n2, ht]
end Go.Am
-- Check
namespace Go.Am
open Go.Proofs
set_option maxHeartbeats 4000000
set_option maxRecDepth 100000
attribute [-simp] BitVec.toNat_or BitVec.toNat_and BitVec.toNat_ofInt
attribute [-simp] cS_t cS_f
theorem allU {n : Nat} (h : n ≤ 20) : IntKind.u32.wrap (IntKind.u32.wrap (2 ^ min (IntKind.u64.wrap (n : Int)).toNat IntKind.u32.bits) - 1) = ((2 ^ n - 1 : Nat) : Int) := by
  have h1 : IntKind.u64.wrap (n : Int) = n := wrapU64 (by omega) (by omega)
  have h2 := shlU (x := (n : Int)) (by omega) (by omega)
  rw [Int.one_mul] at h2
  have hp : 2 ^ n ≤ 2 ^ 20 := Nat.pow_le_pow_right (by omega) h
  have hp0 : 0 < 2 ^ n := Nat.two_pow_pos n
  rw [h1, h2, Int.toNat_natCast, ← Int.ofNat_one, ← Int.ofNat_sub (by omega), wrapU (by omega)]
-- 112 loop.example/g00485/impl.Check
def k_impl_Check : K :=
 .seq (
  .reg none [⟨(some 1), none, .box 39 1 (.t 0)⟩,
    ⟨(some 2), none, .asn (.c (.int .i64 (0)))⟩]) (
 .seq (
  .seq (
   .reg none [⟨(some 6), none, .ld 1 true (.t 1)⟩,
     ⟨(some 7), none, .call 147 [(.t 6)]⟩,
     ⟨(some 8), none, .not (.t 7)⟩]) (
  .cond (.t 8) (
   .seq (
    .reg none [⟨(some 2), none, .asn (.c (.int .i64 (1)))⟩]) (
   .ret)) (
   .skip))) (
 .seq (
  .reg none [⟨(some 9), none, .ld 1 true (.t 1)⟩,
    ⟨(some 10), none, .call 148 [(.t 9)]⟩,
    ⟨(some 3), none, .alc 191 20 [(.int .u32 (0)), (.int .u32 (0)), (.int .u32 (0)), (.int .u32 (0)), (.int .u32 (0)), (.int .u32 (0)), (.int .u32 (0)), (.int .u32 (0)), (.int .u32 (0)), (.int .u32 (0)), (.int .u32 (0)), (.int .u32 (0)), (.int .u32 (0)), (.int .u32 (0)), (.int .u32 (0)), (.int .u32 (0)), (.int .u32 (0)), (.int .u32 (0)), (.int .u32 (0)), (.int .u32 (0))]⟩,
    ⟨none, none, .st 20 false (.t 3) (.t 10)⟩]) (
 .seq (
  .seq (
   .reg none [⟨(some 11), none, .fad 0 (.t 1)⟩,
     ⟨(some 12), none, .ld 1 false (.t 11)⟩,
     ⟨(some 13), none, .len (.t 12)⟩,
     ⟨(some 14), none, .mv (.c (.int .i64 (0)))⟩]) (
  .block 0 (
   .loop (some ([1, 3, 13, 14], [1, 3, 1000])) (
    .seq (
     .reg none [⟨(some 15), none, .bin .lss (.t 14) (.t 13)⟩]) (
    .seq (
     .cond (.t 15) (
      .skip) (
      .exit 0)) (
    .seq (
     .block 1 (
      .seq (
       .reg none [⟨(some 16), none, .mv (.t 14)⟩,
         ⟨(some 4), none, .asn (.t 16)⟩]) (
      .seq (
       .reg none [⟨(some 17), none, .mv (.t 4)⟩,
         ⟨(some 18), none, .iaa 20 1 (.t 3) (.t 17)⟩,
         ⟨(some 19), none, .ld 1 false (.t 18)⟩,
         ⟨(some 20), none, .mv (.t 4)⟩,
         ⟨(some 21), none, .call 149 [(.t 19), (.t 20)]⟩]) (
      .cond (.t 21) (
       .seq (
        .reg none [⟨(some 2), none, .asn (.c (.int .i64 (2)))⟩]) (
       .ret)) (
       .skip))))) (
    .reg none [⟨(some 22), none, .bin .add (.t 14) (.c (.int .i64 (1)))⟩,
      ⟨(some 14), none, .mv (.t 22)⟩]))))))) (
 .seq (
  .reg none [⟨(some 23), none, .fad 0 (.t 1)⟩,
    ⟨(some 24), none, .ld 1 false (.t 23)⟩,
    ⟨(some 25), none, .len (.t 24)⟩,
    ⟨(some 26), none, .conv .u64 (.t 25)⟩,
    ⟨(some 27), none, .bin .shl (.c (.int .u32 (1))) (.t 26)⟩,
    ⟨(some 28), none, .bin .sub (.t 27) (.c (.int .u32 (1)))⟩,
    ⟨(some 5), none, .asn (.t 28)⟩]) (
 .seq (
  .block 2 (
   .seq (
    .reg none [⟨(some 30), none, .ld 1 true (.t 1)⟩,
      ⟨(some 31), none, .call 150 [(.t 30)]⟩,
      ⟨(some 32), none, .mv (.t 5)⟩,
      ⟨(some 33), none, .bin .neq (.t 31) (.t 32)⟩,
      ⟨(some 29), none, .asn (.t 33)⟩]) (
   .cond (.t 29) (
    .seq (
     .reg none [⟨(some 2), none, .asn (.c (.int .i64 (3)))⟩]) (
    .ret)) (
    .seq (
     .reg none [⟨(some 35), none, .ld 1 true (.t 1)⟩,
       ⟨(some 36), none, .call 151 [(.t 35)]⟩,
       ⟨(some 37), none, .mv (.t 5)⟩,
       ⟨(some 38), none, .bin .neq (.t 36) (.t 37)⟩,
       ⟨(some 34), none, .asn (.t 38)⟩]) (
    .cond (.t 34) (
     .seq (
      .reg none [⟨(some 2), none, .asn (.c (.int .i64 (4)))⟩]) (
     .ret)) (
     .skip)))))) (
 .seq (
  .reg none [⟨(some 2), none, .asn (.c (.int .i64 (0)))⟩]) (
 .ret)))))))
def r_impl_Check : Nat × List RV := (39, [.t 2])

theorem c_impl_Check : cmpS PT PF PA (Try.prog.funcs[112]?) = some (r_impl_Check.1, r_impl_Check.2, stripK k_impl_Check) := by kernel_rfl

set_option maxRecDepth 200000 in
theorem h_impl_Check (g : TGram) (hw : wGram g < 2 ^ 31) (hl : lGram g) : CallsF Try.prog 112 [.agg (sGram g)] (aI (checkG g)) := by
  refine Prun c_impl_Check (by simp [r_impl_Check]) (by simp) ?_
  unfold k_impl_Check r_impl_Check
  have hgo := h_impl_GramOk g hw hl
  cases hg : gramOk g with
  | false =>
    rw [hg] at hgo
    obtain ⟨ps⟩ := g
    simp only [sGram] at hgo
    simp [sGram]
    refine callG_F hgo (by simp) ?_
    simp [checkG, hg]
  | true =>
  rw [hg] at hgo
  have hn := len_of hg
  have hst := h_startsOf g hg hw hl
  have hpr := h_impl_productive g hg hw hl
  have hrc := h_impl_reachable g hg hw
  have hvo := starts_ok hg
  have hp1 := prods_lt hg
  have hr1 := rchs_lt hg
  have hT : checkG g = if (List.range' 0 (g.parts.length - 0)).any (fun k => ((starts g.parts).getD k 0).testBit k) = true then 2 else if prods g.parts ≠ 2 ^ g.parts.length - 1 then 3 else if rchs g.parts ≠ 2 ^ g.parts.length - 1 then 4 else 0 := by
    simp only [checkG, hg, List.range_eq_range']
    rfl
  obtain ⟨ps⟩ := g
  simp only [sGram] at hgo hst hpr hrc
  simp only at hn hvo hp1 hr1 hT
  generalize checkG ⟨ps⟩ = T at *
  generalize starts ps = v at *
  generalize prods ps = fp at *
  generalize rchs ps = fr at *
  have hall := allU hn.2
  have n64 : ¬ IntKind.u64.wrap (ps.length : Int) < 0 := by rw [wrapU64 (by omega) (by omega)]; omega
  generalize hM : 2 ^ ps.length - 1 = M at *
  have hz : [C.int .u32 0, C.int .u32 0, C.int .u32 0, C.int .u32 0, C.int .u32 0, C.int .u32 0, C.int .u32 0, C.int .u32 0, C.int .u32 0, C.int .u32 0, C.int .u32 0, C.int .u32 0, C.int .u32 0, C.int .u32 0, C.int .u32 0, C.int .u32 0, C.int .u32 0, C.int .u32 0, C.int .u32 0, C.int .u32 0] = row20 (List.replicate ps.length 0) := by rw [row20_zero]; rfl
  rw [hz]
  simp [sGram]
  refine callG_F hgo (by simp) ?_
  simp
  refine callG_F hst (by simp) ?_
  simp [row20_scal]
  refine awp_loop (fun n σ => ∃ i : Nat, i ≤ ps.length ∧ n = ps.length - i ∧ T = (if (List.range' i (ps.length - i)).any (fun k => (v.getD k 0).testBit k) = true then 2 else if fp ≠ M then 3 else if fr ≠ M then 4 else 0) ∧ σ = ⟨[(1, .one (.pt 1 1 [] 0 0)), (3, .one (.pt 20 3 [] 0 0)), (13, aI ps.length), (14, aI i)], [(1, ⟨39, 1, [[.ar false 0 1 (ps.map sISS)]]⟩), (3, ⟨191, 20, [row20 v]⟩)]⟩) (ps.length) ⟨0, by omega, rfl, hT, by simp⟩ ?_
  rintro n σ ⟨i, hi, rfl, ht, rfl⟩
  have wi : IntKind.i64.wrap ((i : Int) + 1) = i + 1 := wrapI (by omega) (by omega)
  by_cases h : i < ps.length
  · rw [any_step h] at ht
    have hiv : i < v.length := by rw [hvo.1]; exact h
    rw [getD_at hiv] at ht
    have hvi := hvo.2 i
    have hg1 := row20_get (v := v) (k := i) (by omega)
    rw [getD_at hiv] at hvi hg1
    have h20 : (i : Int) < 20 := by omega
    have h20' : i + 1 ≤ 20 := by omega
    generalize v[i] = a at *
    have hh := h_has a i (by have := Nat.pow_le_pow_right (show 0 < 2 by omega) hn.2; omega) (by omega) (by omega)
    rw [Int.toNat_natCast] at hh
    simp [h, h20, h20', hg1]
    refine callG_F hh (by simp) ?_
    cases c : a.testBit i with
    | true =>
      rw [c] at ht
      simp at ht
      simp [ht]
    | false =>
      rw [c, Bool.false_or] at ht
      simp
      exact ⟨ps.length - (i + 1), by omega, i + 1, by omega, rfl, by simpa using ht, by simp [wi]⟩
  · have : i = ps.length := by omega
    subst this
    simp only [Nat.sub_self, List.range'_zero, List.any_nil] at ht
    simp [intShift, n64, hall]
    refine callG_F hpr (by simp) ?_
    by_cases c1 : fp = M
    case neg =>
      have c1' : ¬ (fp : Int) = M := by omega
      simp at ht
      rw [if_neg c1] at ht
      simp [c1', ht]
    subst c1
    simp
    refine callG_F hrc (by simp) ?_
    by_cases c2 : fr = fp
    case neg =>
      have c2' : ¬ (fr : Int) = fp := by omega
      simp [c2] at ht
      simp [c2', ht]
    simp [c2] at ht
    simp [c2, ht]
-- 58 loop.example/g00485/impl.isGood
def k_impl_isGood : K :=
 .seq (
  .reg none [⟨(some 1), none, .box 39 1 (.t 0)⟩,
    ⟨(some 2), none, .asn (.c (.bool false))⟩]) (
 .seq (
  .reg none [⟨(some 3), none, .ld 1 true (.t 1)⟩,
    ⟨(some 4), none, .call 112 [(.t 3)]⟩,
    ⟨(some 5), none, .bin .eql (.t 4) (.c (.int .i64 (0)))⟩,
    ⟨(some 2), none, .asn (.t 5)⟩]) (
 .ret))
def r_impl_isGood : Nat × List RV := (6, [.t 2])

theorem c_impl_isGood : cmpS PT PF PA (Try.prog.funcs[58]?) = some (r_impl_isGood.1, r_impl_isGood.2, stripK k_impl_isGood) := by kernel_rfl

theorem h_isGood (g : TGram) (hw : wGram g < 2 ^ 31) (hl : lGram g) : CallsF Try.prog 58 [.agg (sGram g)] (aB (decide (checkG g = 0))) := by
  refine Prun c_impl_isGood (by simp [r_impl_isGood]) (by simp) ?_
  unfold k_impl_isGood r_impl_isGood
  have hc := h_impl_Check g hw hl
  obtain ⟨ps⟩ := g
  simp only [sGram] at hc
  simp [sGram]
  refine callG_F hc (by simp) ?_
  simp
end Go.Am
-- SetStart
namespace Go.Am
open Go.Proofs
set_option maxHeartbeats 4000000
set_option maxRecDepth 100000
attribute [-simp] BitVec.toNat_or BitVec.toNat_and BitVec.toNat_ofInt
def noSet : A := .tup [(false, [.ar true 96 2 []]), (false, [.bool false])]
/-- Where the alternatives of a part begin. -/
def startC (al : List (List Int)) (rest : List Int) (n : Nat) : List TConf := (List.range n).map fun (i : Nat) => ⟨(i : Int), al.getD i [] ++ rest⟩
theorem startC_len (al : List (List Int)) (rest : List Int) (n : Nat) : (startC al rest n).length = n := by simp [startC]
theorem startC_succ (al : List (List Int)) (rest : List Int) (i : Nat) (h : i < al.length) : startC al rest (i + 1) = startC al rest i ++ [⟨i, al[i] ++ rest⟩] := by
  simp [startC, List.range_succ, h]
def startS (g : TGram) (k : Int) (rest : List Int) : List TConf := startC (g.parts.getD k.toNat []) rest (g.parts.getD k.toNat []).length
noncomputable def closR' (ps : Parts) (cs : List TConf) : Option (List TConf) := closO ps cs
noncomputable def startO (g : TGram) (k : Int) (rest : List Int) : Option (List TConf) := if inr k 0 (g.parts.length - 1) && rowK g.parts.length rest then closO g.parts (startS g k rest) else none
def setR : Option (List TConf) → A
  | some S => .tup [(false, [.ar true 96 2 (S.map rConf)]), (false, [.bool true])]
  | none => noSet
@[simp] theorem setR_noSh (o : Option (List TConf)) : noShA (setR o) = true := by cases o <;> simp [setR, noSet]
theorem closR_setR (ps : Parts) (cs : List TConf) : closR ps cs = setR (closO ps cs) := by
  unfold closR setR noSet
  cases closO ps cs <;> rfl
theorem startS_ok {g : TGram} (hg : gramOk g = true) {k : Int} {rest : List Int} (hk : inr k 0 (g.parts.length - 1) = true) (hr : rowK g.parts.length rest = true) : ∀ c ∈ startS g k rest, c.row.all (symOk g.parts.length) = true ∧ c.row.length ≤ 208 := by
  intro c hc
  rw [inr_iff] at hk
  have hgl := gram_len hg
  have hkn : k.toNat < g.parts.length := by omega
  simp only [rowK, Bool.and_eq_true, decide_eq_true_eq] at hr
  simp only [startS, startC, List.mem_map, List.mem_range] at hc
  obtain ⟨i, hi, rfl⟩ := hc
  have e1 : g.parts.getD k.toNat [] = g.parts[k.toNat] := by rw [List.getD_eq_getElem?_getD, List.getElem?_eq_getElem hkn, Option.getD_some]
  rw [e1] at hi ⊢
  rw [List.getD_eq_getElem?_getD, List.getElem?_eq_getElem hi, Option.getD_some]
  have := gram_row hg hkn (List.getElem_mem hi)
  exact ⟨by simp only [List.all_append, this.2, hr.2, Bool.and_self], by simp; omega⟩
-- 59 loop.example/g00485/impl.setStart
def k_impl_setStart : K :=
 .seq (
  .reg none [⟨(some 3), none, .box 39 1 (.t 0)⟩,
    ⟨(some 6), none, .asn (.c (.ar true 96 2 []))⟩,
    ⟨(some 7), none, .asn (.c (.bool false))⟩]) (
 .seq (
  .seq (
   .reg none [⟨(some 11), none, .ld 1 true (.t 3)⟩,
     ⟨(some 12), none, .mv (.t 1)⟩,
     ⟨(some 13), none, .call 113 [(.t 11), (.t 12)]⟩,
     ⟨(some 14), none, .not (.t 13)⟩,
     ⟨(some 15), none, .mv (.t 14)⟩,
     ⟨(some 16), (some (15, false)), .ld 1 true (.t 3)⟩,
     ⟨(some 17), (some (15, false)), .mv (.t 2)⟩,
     ⟨(some 18), (some (15, false)), .call 114 [(.t 16), (.t 17)]⟩,
     ⟨(some 19), (some (15, false)), .not (.t 18)⟩,
     ⟨(some 20), none, .pick (.t 15) (.c (.bool true)) (.t 19)⟩]) (
  .cond (.t 20) (
   .seq (
    .reg none [⟨(some 6), none, .asn (.c (.ar true 96 2 []))⟩,
      ⟨(some 7), none, .asn (.c (.bool false))⟩]) (
   .ret)) (
   .skip))) (
 .seq (
  .reg none [⟨(some 8), none, .asn (.c (.ar true 96 2 []))⟩]) (
 .seq (
  .seq (
   .reg none [⟨(some 21), none, .fad 0 (.t 3)⟩,
     ⟨(some 22), none, .ld 1 false (.t 21)⟩,
     ⟨(some 23), none, .mv (.t 1)⟩,
     ⟨(some 24), none, .iad 1 (.t 22) (.t 23)⟩,
     ⟨(some 25), none, .ld 1 false (.t 24)⟩,
     ⟨(some 26), none, .len (.t 25)⟩,
     ⟨(some 27), none, .mv (.c (.int .i64 (0)))⟩]) (
  .block 0 (
   .loop (some ([2, 3, 8, 25, 26, 27], [2, 3, 8, 1000])) (
    .seq (
     .reg none [⟨(some 28), none, .bin .lss (.t 27) (.t 26)⟩]) (
    .seq (
     .cond (.t 28) (
      .skip) (
      .exit 0)) (
    .seq (
     .block 1 (
      .seq (
       .reg none [⟨(some 29), none, .mv (.t 27)⟩,
         ⟨(some 30), none, .iad 1 (.t 25) (.t 27)⟩,
         ⟨(some 31), none, .ld 1 false (.t 30)⟩,
         ⟨(some 9), none, .asn (.t 29)⟩,
         ⟨(some 10), none, .asn (.t 31)⟩]) (
      .reg none [⟨(some 32), none, .mv (.t 8)⟩,
        ⟨(some 33), none, .mv (.t 9)⟩,
        ⟨(some 34), none, .mv (.t 10)⟩,
        ⟨(some 35), none, .mv (.t 2)⟩,
        ⟨(some 36), none, .bls 34 1 false [(.t 34), (.t 35)]⟩,
        ⟨(some 37), none, .call 115 [(.t 36)]⟩,
        ⟨(some 38), none, .bld false [(.int .i64 (0)), (.ar true 3 1 [])] [(0, 1, (.t 33)), (1, 1, (.t 37))]⟩,
        ⟨(some 39), none, .bls 96 2 false [(.t 38)]⟩,
        ⟨(some 40), none, .app 96 2 32 false (.t 32) (.t 39)⟩,
        ⟨(some 8), none, .asn (.t 40)⟩]))) (
    .reg none [⟨(some 41), none, .bin .add (.t 27) (.c (.int .i64 (1)))⟩,
      ⟨(some 27), none, .mv (.t 41)⟩]))))))) (
 .seq (
  .reg none [⟨(some 42), none, .ld 1 true (.t 3)⟩,
    ⟨(some 43), none, .mv (.t 8)⟩,
    ⟨(some 44), none, .call 116 [(.t 42), (.t 43)]⟩,
    ⟨(some 45), none, .ext 0 (.t 44)⟩,
    ⟨(some 46), none, .ext 1 (.t 44)⟩,
    ⟨(some 6), none, .asn (.t 45)⟩,
    ⟨(some 7), none, .asn (.t 46)⟩]) (
 .ret)))))
def r_impl_setStart : Nat × List RV := (47, [.t 6, .t 7])

theorem c_impl_setStart : cmpS PT PF PA (Try.prog.funcs[59]?) = some (r_impl_setStart.1, r_impl_setStart.2, stripK k_impl_setStart) := by kernel_rfl

theorem h_setStart (g : TGram) (k : Int) (rest : List Int) (hg : gramOk g = true) (hw : wGram g < 2 ^ 31) (hr : lL l0 rest) : CallsF Try.prog 59 [.agg (sGram g), aI k, .one (.ar false 0 1 (rest.map rI))] (setR (startO g k rest)) := by
  refine Prun c_impl_setStart (by simp [r_impl_setStart]) (by simp) ?_
  unfold k_impl_setStart r_impl_setStart
  have hpt := h_isPart g k hw
  have hrw := h_isRow g rest hw hr
  have hso := @startS_ok g hg k rest
  have hgl := gram_len hg
  have hcl := fun h1 h2 => h_closed g (startS g k rest) hg hw (fun c hc => (hso h1 h2 c hc).1) (fun c hc => by have := (hso h1 h2 c hc).2; omega)
  have hga := @gram_alts g hg
  have hgr := @gram_row g hg
  simp only [closR_setR] at hcl
  have hst : inr k 0 (g.parts.length - 1) = true → rowK g.parts.length rest = true → startO g k rest = closO g.parts (startS g k rest) := fun h1 h2 => by simp [startO, h1, h2]
  obtain ⟨ps⟩ := g
  simp only [sGram] at hpt hrw hcl
  simp [sGram]
  refine callG_F hpt (by simp) ?_
  cases c1 : inr k 0 ((ps.length : Int) - 1) with
  | false => simp [startO, c1, setR, noSet]
  | true =>
  simp
  refine callG_F hrw (by simp) ?_
  cases c2 : rowK ps.length rest with
  | false => simp [startO, c1, c2, setR, noSet]
  | true =>
  have hcl := hcl c1 c2
  have hst := hst c1 c2
  rw [inr_iff] at c1
  have hkn : k.toNat < ps.length := by simp only at hgl; omega
  have hga := hga hkn
  have hgr := @hgr _ hkn
  have hk0 : (0 : Int) ≤ k := c1.1
  have hgd : ps.getD k.toNat [] = ps[k.toNat] := by rw [List.getD_eq_getElem?_getD, List.getElem?_eq_getElem hkn, Option.getD_some]
  simp only [rowK, Bool.and_eq_true, decide_eq_true_eq] at c2
  simp only [startS] at hcl hst
  rw [hgd] at hcl hst
  simp only at hga hgr
  generalize hal : ps[k.toNat] = al at *
  have hcl := hcl (by rw [startC_len]; omega)
  simp [hk0, hkn, hal, sISS]
  refine awp_loop (fun n σ => ∃ (i : Nat) (T : List TConf), i ≤ al.length ∧ n = al.length - i ∧ T = startC al rest i ∧ σ = ⟨[(2, .one (.ar false 0 1 (rest.map rI))), (3, .one (.pt 1 3 [] 0 0)), (8, .one (.vw 96 2 8 [] 0 T.length)), (25, .one (.ar false 0 1 (al.map sIS))), (26, aI al.length), (27, aI i)], [(3, ⟨39, 1, [[.ar false 0 1 (ps.map sISS)]]⟩), (8, ⟨96, 2, T.map rConf⟩)]⟩) (al.length) ⟨0, [], by omega, rfl, rfl, by simp [sISS]⟩ ?_
  rintro n σ ⟨i, T, hi, rfl, hT, rfl⟩
  by_cases h : i < al.length
  case neg =>
    have hi' : i = al.length := by omega
    subst hi'
    subst hT
    simp
    refine callG_F hcl (fun _ => setR_noSh _) ?_
    rw [hst]
    cases closO ps (startC al rest al.length) <;> simp [setR, noSet]
  have hlr := (hgr (List.getElem_mem h)).1
  have hcc := h_concat al[i] rest (by omega) (by omega)
  have hsc := startC_succ al rest i h
  have wi : IntKind.i64.wrap ((i : Int) + 1) = i + 1 := wrapI (by omega) (by omega)
  have hTl : T.length = i := by rw [hT, startC_len]
  have hb : T.length + 1 ≤ 4294967296 := by omega
  have hstl := startC_len al rest (i + 1)
  generalize hrw : al[i] = row at *
  simp [h, hrw, sIS]
  first | refine callG_F hcc (by simp) ?_ | refine callOG_F hcc (by simp) ?_ | refine gcal_F hcc (by simp) ?_ | refine callRG_F hcc rfl rfl (by simp) (by simp) ?_ | refine ⟨_, by simp, hcc, ?_⟩
  try simp [hb]
  refine ⟨al.length - (i + 1), by omega, i + 1, by omega, rfl, ?_⟩
  rw [hsc, wi, hT]
  simp [rConf, startC_len]
end Go.Am
-- SetStart2
namespace Go.Am
open Go.Proofs
set_option maxHeartbeats 4000000
set_option maxRecDepth 100000
attribute [-simp] BitVec.toNat_or BitVec.toNat_and BitVec.toNat_ofInt
theorem check_gram {g : TGram} (h : checkG g = 0) : gramOk g = true := by
  unfold checkG at h
  cases hg : gramOk g with
  | true => rfl
  | false => simp [hg] at h
noncomputable def startG (g : TGram) (k : Int) (rest : List Int) : Option (List TConf) := if checkG g = 0 then startO g k rest else none
-- 19 loop.example/g00485/impl.SetStart
def k_impl_SetStart : K :=
 .seq (
  .reg none [⟨(some 3), none, .box 39 1 (.t 0)⟩,
    ⟨(some 6), none, .asn (.c (.ar true 96 2 []))⟩,
    ⟨(some 7), none, .asn (.c (.bool false))⟩]) (
 .seq (
  .seq (
   .reg none [⟨(some 8), none, .ld 1 true (.t 3)⟩,
     ⟨(some 9), none, .call 58 [(.t 8)]⟩,
     ⟨(some 10), none, .not (.t 9)⟩]) (
  .cond (.t 10) (
   .seq (
    .reg none [⟨(some 6), none, .asn (.c (.ar true 96 2 []))⟩,
      ⟨(some 7), none, .asn (.c (.bool false))⟩]) (
   .ret)) (
   .skip))) (
 .seq (
  .reg none [⟨(some 11), none, .ld 1 true (.t 3)⟩,
    ⟨(some 12), none, .mv (.t 1)⟩,
    ⟨(some 13), none, .mv (.t 2)⟩,
    ⟨(some 14), none, .call 59 [(.t 11), (.t 12), (.t 13)]⟩,
    ⟨(some 15), none, .ext 0 (.t 14)⟩,
    ⟨(some 16), none, .ext 1 (.t 14)⟩,
    ⟨(some 6), none, .asn (.t 15)⟩,
    ⟨(some 7), none, .asn (.t 16)⟩]) (
 .ret)))
def r_impl_SetStart : Nat × List RV := (17, [.t 6, .t 7])

theorem c_impl_SetStart : cmpS PT PF PA (Try.prog.funcs[19]?) = some (r_impl_SetStart.1, r_impl_SetStart.2, stripK k_impl_SetStart) := by kernel_rfl

theorem h_impl_SetStart (g : TGram) (k : Int) (rest : List Int) (hw : wGram g < 2 ^ 31) (hl : lGram g) (hr : lL l0 rest) : CallsF Try.prog 19 [.agg (sGram g), aI k, .one (.ar false 0 1 (rest.map rI))] (setR (startG g k rest)) := by
  refine Prun c_impl_SetStart (by simp [r_impl_SetStart]) (by simp) ?_
  unfold k_impl_SetStart r_impl_SetStart
  have hgd := h_isGood g hw hl
  have hs := fun h => h_setStart g k rest (check_gram h) hw hr
  have e1 : checkG g = 0 → startG g k rest = startO g k rest := fun h => by simp [startG, h]
  have e2 : ¬ checkG g = 0 → startG g k rest = none := fun h => by simp [startG, h]
  generalize startG g k rest = o at *
  obtain ⟨ps⟩ := g
  simp only [sGram] at hgd hs
  simp [sGram]
  refine callG_F hgd (by simp) ?_
  by_cases c : checkG ⟨ps⟩ = 0
  · have hs := hs c
    rw [e1 c]
    simp [c]
    refine callG_F hs (by simp) ?_
    cases startO ⟨ps⟩ k rest <;> simp [setR, noSet]
  · rw [e2 c]
    simp [c, setR, noSet]
/-- What the other side gives. -/
def setB (b : Bool) : Option (List TConf) → A
  | some S => .tup [(false, [cS b S]), (false, [.bool true])]
  | none => noSet
def SetP (o : Option (List TConf)) (r : A) (H : List (Nat × Obj)) : Prop := H = [] ∧ ∃ b, r = setB b o
def WorkI (ps : Parts) (cs : Nat → List TConf) (len : Nat) (tm0 : Nat → List (Nat × A)) (ob0 : List (Nat × Obj)) (id : Nat) (n : Nat) (σ : St) : Prop := ∃ (i : Nat) (bs bw : Bool) (S W : List TConf) (ok : Bool), i ≤ len ∧ n = len - i ∧ Clo ps (cs i) [] S W (!ok) ∧ σ = ⟨tm0 i, ob0 ++ [(id, wkO bs bw S W ok)]⟩
-- 16 loop.example/g00485/spec.SetStart
def k_spec_SetStart : K :=
 .seq (
  .reg none [⟨(some 3), none, .box 39 1 (.t 0)⟩,
    ⟨(some 6), none, .asn (.c (.ar true 96 2 []))⟩,
    ⟨(some 7), none, .asn (.c (.bool false))⟩]) (
 .seq (
  .reg none [⟨(some 11), none, .bls 96 2 false []⟩,
    ⟨(some 8), none, .asn (.t 11)⟩]) (
 .seq (
  .seq (
   .reg none [⟨(some 12), none, .ld 1 true (.t 3)⟩,
     ⟨(some 13), none, .call 53 [(.t 12)]⟩,
     ⟨(some 14), none, .bin .neq (.t 13) (.c (.int .i64 (0)))⟩,
     ⟨(some 15), none, .mv (.t 14)⟩,
     ⟨(some 16), (some (15, false)), .mv (.t 1)⟩,
     ⟨(some 17), (some (15, false)), .fad 0 (.t 3)⟩,
     ⟨(some 18), (some (15, false)), .ld 1 false (.t 17)⟩,
     ⟨(some 19), (some (15, false)), .len (.t 18)⟩,
     ⟨(some 20), (some (15, false)), .bin .sub (.t 19) (.c (.int .i64 (1)))⟩,
     ⟨(some 21), (some (15, false)), .call 54 [(.t 16), (.c (.int .i64 (0))), (.t 20)]⟩,
     ⟨(some 22), (some (15, false)), .not (.t 21)⟩,
     ⟨(some 23), none, .pick (.t 15) (.c (.bool true)) (.t 22)⟩,
     ⟨(some 24), none, .mv (.t 23)⟩,
     ⟨(some 25), (some (24, false)), .ld 1 true (.t 3)⟩,
     ⟨(some 26), (some (24, false)), .mv (.t 2)⟩,
     ⟨(some 27), (some (24, false)), .call 55 [(.t 25), (.t 26)]⟩,
     ⟨(some 28), (some (24, false)), .not (.t 27)⟩,
     ⟨(some 29), none, .pick (.t 24) (.c (.bool true)) (.t 28)⟩]) (
  .cond (.t 29) (
   .seq (
    .reg none [⟨(some 30), none, .mv (.t 8)⟩,
      ⟨(some 6), none, .asn (.t 30)⟩,
      ⟨(some 7), none, .asn (.c (.bool false))⟩]) (
   .ret)) (
   .skip))) (
 .seq (
  .reg none [⟨(some 31), none, .bld false [(.ar true 96 2 []), (.ar true 96 2 []), (.bool false)] [(2, 1, (.c (.bool true)))]⟩,
    ⟨(some 32), none, .box 89 3 (.t 31)⟩,
    ⟨(some 9), none, .asn (.t 32)⟩]) (
 .seq (
  .seq (
   .reg none [⟨(some 10), none, .asn (.c (.int .i64 (0)))⟩]) (
  .block 0 (
   .loop (some ([1, 2, 3, 8, 9, 10], [1, 2, 3, 8, 9, 10, 32, 1000])) (
    .seq (
     .seq (
      .reg none [⟨(some 33), none, .mv (.t 10)⟩,
        ⟨(some 34), none, .fad 0 (.t 3)⟩,
        ⟨(some 35), none, .ld 1 false (.t 34)⟩,
        ⟨(some 36), none, .mv (.t 1)⟩,
        ⟨(some 37), none, .iad 1 (.t 35) (.t 36)⟩,
        ⟨(some 38), none, .ld 1 false (.t 37)⟩,
        ⟨(some 39), none, .len (.t 38)⟩,
        ⟨(some 40), none, .bin .lss (.t 33) (.t 39)⟩]) (
     .cond (.t 40) (
      .skip) (
      .exit 0))) (
    .seq (
     .block 1 (
      .drw none 0 [⟨(some 43), none, .ld 1 true (.t 3)⟩,
        ⟨(some 44), none, .mv (.t 9)⟩,
        ⟨(some 45), none, .mv (.t 10)⟩,
        ⟨(some 47), none, .fad 0 (.t 3)⟩,
        ⟨(some 48), none, .ld 1 false (.t 47)⟩,
        ⟨(some 49), none, .mv (.t 1)⟩,
        ⟨(some 50), none, .iad 1 (.t 48) (.t 49)⟩,
        ⟨(some 51), none, .ld 1 false (.t 50)⟩,
        ⟨(some 52), none, .mv (.t 10)⟩,
        ⟨(some 53), none, .iad 1 (.t 51) (.t 52)⟩,
        ⟨(some 54), none, .ld 1 false (.t 53)⟩,
        ⟨(some 56), none, .mv (.t 2)⟩,
        ⟨(some 46), none, .bls 3 1 false []⟩,
        ⟨(some 55), none, .app 3 1 8 false (.t 46) (.t 54)⟩,
        ⟨(some 57), none, .app 3 1 8 false (.t 55) (.t 56)⟩,
        ⟨(some 58), none, .callzr 56 [57] (.t 44) [(.t 43), (.t 44), (.t 45), (.t 57)]⟩])) (
    .reg none [⟨(some 41), none, .mv (.t 10)⟩,
      ⟨(some 42), none, .bin .add (.t 41) (.c (.int .i64 (1)))⟩,
      ⟨(some 10), none, .asn (.t 42)⟩])))))) (
 .seq (
  .seq (
   .reg none [⟨(some 59), none, .mv (.t 9)⟩,
     ⟨(some 60), none, .nil (.t 59)⟩,
     ⟨(some 61), none, .fad 2 (.t 60)⟩,
     ⟨(some 62), none, .ld 1 false (.t 61)⟩,
     ⟨(some 63), none, .not (.t 62)⟩]) (
  .cond (.t 63) (
   .seq (
    .reg none [⟨(some 64), none, .mv (.t 8)⟩,
      ⟨(some 6), none, .asn (.t 64)⟩,
      ⟨(some 7), none, .asn (.c (.bool false))⟩]) (
   .ret)) (
   .skip))) (
 .seq (
  .reg none [⟨(some 65), none, .mv (.t 9)⟩,
    ⟨(some 66), none, .nil (.t 65)⟩,
    ⟨(some 67), none, .fad 0 (.t 66)⟩,
    ⟨(some 68), none, .ld 1 false (.t 67)⟩,
    ⟨(some 6), none, .asn (.t 68)⟩,
    ⟨(some 7), none, .asn (.c (.bool true))⟩]) (
 .ret)))))))
def r_spec_SetStart : Nat × List RV := (69, [.t 6, .t 7])

theorem c_spec_SetStart : cmpS PT PF PA (Try.prog.funcs[16]?) = some (r_spec_SetStart.1, r_spec_SetStart.2, stripK k_spec_SetStart) := by kernel_rfl

theorem h_spec_SetStart (g : TGram) (k : Int) (rest : List Int) (hw : wGram g < 2 ^ 31) (hl : lGram g) (hr : lL l0 rest) (hrl : rest.length < 2 ^ 40) : CallsA Try.prog 16 [.agg (sGram g), aI k, .one (.ar false 0 1 (rest.map rI))] [] (SetP (startG g k rest)) := by
  have hck := h_spec_Check g hw hl
  have hkn := h_spec_l8Known g rest hw hrl
  have hno : startG g k rest = none → SetP (startG g k rest) noSet [] := fun h => by rw [h]; exact ⟨rfl, true, rfl⟩
  have hsm : ∀ b S, startG g k rest = some S → SetP (startG g k rest) (.tup [(false, [cS b S]), (false, [.bool true])]) [] := fun b S h => by rw [h]; exact ⟨rfl, b, rfl⟩
  have e1 : checkG g = 0 → startG g k rest = startO g k rest := fun h => by simp [startG, h]
  have e2 : ¬ checkG g = 0 → startG g k rest = none := fun h => by simp [startG, h]
  generalize startG g k rest = o at *
  generalize hQ : SetP o = Q at *
  simp only [noSet] at hno
  refine PrunA c_spec_SetStart (by simp [r_spec_SetStart]) (by simp) ?_
  unfold k_spec_SetStart r_spec_SetStart
  obtain ⟨ps⟩ := g
  simp only [sGram] at hck hkn
  simp [sGram]
  refine callG_F hck (by simp) ?_
  by_cases c : checkG ⟨ps⟩ = 0
  case neg =>
    have hno := hno (e2 c)
    simp [c]
    exact hno
  have hg := check_gram c
  have hso := @startS_ok ⟨ps⟩ hg k rest
  have hgl := gram_len hg
  have hgr := @gram_row ⟨ps⟩ hg
  have hga := @gram_alts ⟨ps⟩ hg
  have e1 := e1 c
  simp [c]
  have wn : IntKind.i64.wrap ((ps.length : Int) - 1) = ps.length - 1 := wrapI (by simp at hgl; omega) (by simp at hgl; omega)
  simp [wn]
  refine callG_F (h_spec_l1In _ _ _) (by simp) ?_
  cases c1 : inr k 0 ((ps.length : Int) - 1) with
  | false =>
    have hno := hno (by rw [e1]; simp [startO, c1])
    simp
    exact hno
  | true =>
  simp
  refine callG_F hkn (by simp) ?_
  cases c2 : rowK ps.length rest with
  | false =>
    have hno := hno (by rw [e1]; simp [startO, c1, c2])
    simp
    exact hno
  | true =>
  have e3 : o = closO ps (startS ⟨ps⟩ k rest) := by rw [e1]; simp [startO, c1, c2]
  have hso := hso c1 c2
  rw [inr_iff] at c1
  have hkl : k.toNat < ps.length := by simp only at hgl; omega
  have hk0 : (0 : Int) ≤ k := c1.1
  have hgd : ps.getD k.toNat [] = ps[k.toNat] := by rw [List.getD_eq_getElem?_getD, List.getElem?_eq_getElem hkl, Option.getD_some]
  have hgr := @hgr _ hkl
  have hga := hga hkl
  simp only [startS] at e3 hso
  rw [hgd] at e3 hso
  simp only at hga hgr
  have hcl := fun (i : Nat) (h : i < ps[k.toNat].length) => h_spec_l11Close ⟨ps⟩ hg hw (startC ps[k.toNat] rest (i + 1)) (fun c hc => (hso c (by
    simp only [startC, List.mem_map, List.mem_range] at hc ⊢
    obtain ⟨j, hj, rfl⟩ := hc
    exact ⟨j, by omega, rfl⟩)).1)
  generalize hal : ps[k.toNat] = al at *
  have hstp : ∀ (i : Nat) (h : i < al.length) {S W : List TConf} {m : Bool}, Clo ps (startC al rest i) [] S W m → Clo ps (startC al rest (i + 1)) ([] ++ [⟨i, al[i] ++ rest⟩]) S W m := fun i h S W m hC => by
    rw [startC_succ al rest i h]
    rcases hC with ⟨h1, h2⟩ | ⟨h1, h2⟩
    · exact .inl ⟨h1, h2.next _⟩
    · exact .inr ⟨h1, h2.mono fun x hx => List.mem_append_left _ hx⟩
  simp only [rowK, Bool.and_eq_true, decide_eq_true_eq] at c2
  simp
  refine awp_loop (WorkI ps (startC al rest) al.length (fun i => [(1, aI k), (2, .one (.ar false 0 1 (rest.map rI))), (3, .one (.pt 1 3 [] 0 0)), (8, .one (.vw 96 2 8 [] 0 0)), (9, .one (.pt 3 32 [] 0 0)), (10, aI i)]) [(3, ⟨39, 1, [[.ar false 0 1 (ps.map sISS)]]⟩), (8, ⟨96, 2, []⟩)] 32) al.length ⟨0, true, true, [], [], true, by omega, rfl, .inl ⟨rfl, Part.nil⟩, by simp [wkO]⟩ ?_
  rintro n σ ⟨i, bs, bw, S, W, ok, hi, rfl, hC, rfl⟩
  by_cases h : i < al.length
  case neg =>
    have hi' : i = al.length := by omega
    subst hi'
    rcases hC with ⟨hb, hP⟩ | ⟨hb, hM⟩
    · have : ok = true := by simpa using hb
      subst this
      have hs := hsm bs S (by rw [e3, closO_some hP.done])
      cases bs <;> simp [hk0, hkl, hal, sISS, wkO] <;> simp at hs <;> exact hs
    · have : ok = false := by simpa using hb
      subst this
      have hs := hno (by rw [e3, closO_none hM])
      simp [hk0, hkl, hal, sISS, wkO]
      exact hs
  have hcall := hcl i h 201 [] ⟨i, al[i] ++ rest⟩ S W bs bw ok (hstp i h hC) (fun _ => by omega) (by have := (hgr (List.getElem_mem h)).1; simp; omega)
  have hlr := (hgr (List.getElem_mem h)).1
  have wi : IntKind.i64.wrap ((i : Int) + 1) = i + 1 := wrapI (by omega) (by omega)
  generalize hrw : al[i] = row at *
  have hb1 : row.length ≤ 4294967296 := by omega
  have hb2 : row.length + rest.length ≤ 4294967296 := by omega
  have hsr : shrRows (row.map rI ++ rest.map rI) = row.map rI ++ rest.map rI := by rw [← List.map_append, shrs_rI]
  simp only [sGram, List.map_append] at hcall
  simp [hk0, hkl, hal, sISS, h, hrw, sIS, hb1, hb2, hsr, wkO]
  refine CallsA.mono hcall ?_
  rintro r1 H1 ⟨bs2, bw2, S3, W3, ok3, rfl, rfl, hC3, hW3⟩
  refine ⟨_, rfl, rfl, rfl, .inl rfl, by simp, ?_⟩
  simp
  exact ⟨al.length - (i + 1), by omega, i + 1, bs2, bw2, S3, W3, ok3, by omega, rfl, hC3, by simp [wi, wkO, sISS]⟩
end Go.Am
-- SetMove
namespace Go.Am
open Go.Proofs
set_option maxHeartbeats 4000000
set_option maxRecDepth 100000
attribute [-simp] BitVec.toNat_or BitVec.toNat_and BitVec.toNat_ofInt
/-- What goes on behind a letter. -/
def mvC (x : Int) (c : TConf) : List TConf := match c.row with
  | [] => []
  | y :: r => if y = x ∧ inr x 0 25 = true then [⟨c.alt, r⟩] else []
def moveS (cs : List TConf) (x : Int) : List TConf := cs.flatMap (mvC x)
def knownS (n : Nat) (cs : List TConf) : Bool := cs.all (fun c => rowK n c.row)
noncomputable def moveO (g : TGram) (cs : List TConf) (x : Int) : Option (List TConf) := if knownS g.parts.length cs then closO g.parts (moveS cs x) else none
noncomputable def moveG (g : TGram) (cs : List TConf) (x : Int) : Option (List TConf) := if checkG g = 0 then moveO g cs x else none
theorem moveS_succ (cs : List TConf) (x : Int) (i : Nat) (h : i < cs.length) : moveS (cs.take (i + 1)) x = moveS (cs.take i) x ++ mvC x cs[i] := by
  rw [List.take_succ_eq_append_getElem h]
  simp only [moveS, List.flatMap_append, List.flatMap_cons, List.flatMap_nil, List.append_nil]
theorem mvC_len (x : Int) (c : TConf) : (mvC x c).length ≤ 1 := by
  unfold mvC
  split
  · simp
  · split <;> simp
theorem moveS_len (x : Int) : ∀ cs : List TConf, (moveS cs x).length ≤ cs.length
  | [] => by simp [moveS]
  | c :: cs => by
    have h1 := mvC_len x c
    have h2 := moveS_len x cs
    simp only [moveS, List.flatMap_cons, List.length_append, List.length_cons] at h2 ⊢
    omega
theorem mvC_ok {n : Nat} {x : Int} {c d : TConf} (h : rowK n c.row = true) (hd : d ∈ mvC x c) : d.row.all (symOk n) = true ∧ d.row.length ≤ 200 := by
  obtain ⟨a, row⟩ := c
  cases row with
  | nil => simp [mvC] at hd
  | cons y r =>
    simp only [rowK, Bool.and_eq_true, decide_eq_true_eq, List.all_cons, List.length_cons] at h
    simp only [mvC] at hd
    split at hd
    · simp only [List.mem_singleton] at hd
      subst hd
      exact ⟨h.2.2, by simp; omega⟩
    · simp at hd
theorem moveS_ok {n : Nat} {x : Int} {cs : List TConf} (h : knownS n cs = true) : ∀ d ∈ moveS cs x, d.row.all (symOk n) = true ∧ d.row.length ≤ 200 := by
  intro d hd
  simp only [knownS, List.all_eq_true] at h
  simp only [moveS, List.mem_flatMap] at hd
  obtain ⟨c, hc, hd⟩ := hd
  exact mvC_ok (h c hc) hd
theorem letter_lt {n : Nat} {x y : Int} {r : List Int} (h : rowK n (y :: r) = true) (e : y = x) : inr x 0 25 = decide (x < 100) := by
  subst e
  simp only [rowK, Bool.and_eq_true, List.all_cons] at h
  have h1 := h.2.1
  simp only [symOk, Bool.or_eq_true] at h1
  rcases h1 with h1 | h1
  · rw [h1]
    rw [inr_iff] at h1
    simp; omega
  · rw [inr_iff] at h1
    have : ¬ y < 100 := by omega
    simp only [this, decide_false]
    cases h2 : inr y 0 25 with
    | false => rfl
    | true => rw [inr_iff] at h2; omega
-- 75 loop.example/g00485/impl.setMove
def k_impl_setMove : K :=
 .seq (
  .reg none [⟨(some 3), none, .box 39 1 (.t 0)⟩,
    ⟨(some 6), none, .asn (.c (.ar true 96 2 []))⟩,
    ⟨(some 7), none, .asn (.c (.bool false))⟩]) (
 .seq (
  .reg none [⟨(some 8), none, .asn (.c (.ar true 96 2 []))⟩]) (
 .seq (
  .seq (
   .reg none [⟨(some 11), none, .mv (.t 1)⟩,
     ⟨(some 12), none, .len (.t 11)⟩,
     ⟨(some 13), none, .mv (.c (.int .i64 (0)))⟩]) (
  .block 0 (
   .loop (some ([2, 3, 8, 11, 12, 13], [1, 2, 3, 8, 1000])) (
    .seq (
     .reg none [⟨(some 14), none, .bin .lss (.t 13) (.t 12)⟩]) (
    .seq (
     .cond (.t 14) (
      .skip) (
      .exit 0)) (
    .seq (
     .block 1 (
      .seq (
       .reg none [⟨(some 15), none, .iad 2 (.t 11) (.t 13)⟩,
         ⟨(some 16), none, .ld 2 true (.t 15)⟩,
         ⟨(some 10), none, .alc 96 2 [(.int .i64 (0)), (.ar true 3 1 [])]⟩,
         ⟨none, none, .st 2 false (.t 10) (.t 16)⟩]) (
      .seq (
       .seq (
        .reg none [⟨(some 17), none, .ld 1 true (.t 3)⟩,
          ⟨(some 18), none, .fad 1 (.t 10)⟩,
          ⟨(some 19), none, .ld 1 false (.t 18)⟩,
          ⟨(some 20), none, .call 114 [(.t 17), (.t 19)]⟩,
          ⟨(some 21), none, .not (.t 20)⟩]) (
       .cond (.t 21) (
        .seq (
         .reg none [⟨(some 6), none, .asn (.c (.ar true 96 2 []))⟩,
           ⟨(some 7), none, .asn (.c (.bool false))⟩]) (
        .ret)) (
        .skip))) (
      .seq (
       .reg none [⟨(some 22), none, .fad 1 (.t 10)⟩,
         ⟨(some 23), none, .ld 1 false (.t 22)⟩,
         ⟨(some 24), none, .len (.t 23)⟩,
         ⟨(some 25), none, .bin .gtr (.t 24) (.c (.int .i64 (0)))⟩,
         ⟨(some 26), none, .mv (.t 25)⟩,
         ⟨(some 27), (some (26, true)), .fad 1 (.t 10)⟩,
         ⟨(some 28), (some (26, true)), .ld 1 false (.t 27)⟩,
         ⟨(some 29), (some (26, true)), .iad 1 (.t 28) (.c (.int .i64 (0)))⟩,
         ⟨(some 30), (some (26, true)), .ld 1 false (.t 29)⟩,
         ⟨(some 31), (some (26, true)), .mv (.t 2)⟩,
         ⟨(some 32), (some (26, true)), .bin .eql (.t 30) (.t 31)⟩,
         ⟨(some 33), none, .pick (.t 26) (.t 32) (.c (.bool false))⟩,
         ⟨(some 34), none, .mv (.t 33)⟩,
         ⟨(some 35), (some (34, true)), .mv (.t 2)⟩,
         ⟨(some 36), (some (34, true)), .call 128 [(.t 35)]⟩,
         ⟨(some 37), none, .pick (.t 34) (.t 36) (.c (.bool false))⟩]) (
      .cond (.t 37) (
       .drw none 0 [⟨(some 38), none, .mv (.t 8)⟩,
         ⟨(some 39), none, .fad 0 (.t 10)⟩,
         ⟨(some 40), none, .ld 1 false (.t 39)⟩,
         ⟨(some 41), none, .fad 1 (.t 10)⟩,
         ⟨(some 42), none, .ld 1 false (.t 41)⟩,
         ⟨(some 43), none, .slc 1 (.t 42) (some (.c (.int .i64 (1)))) none⟩,
         ⟨(some 44), none, .bld false [(.int .i64 (0)), (.ar true 3 1 [])] [(0, 1, (.t 40)), (1, 1, (.t 43))]⟩,
         ⟨(some 45), none, .bls 96 2 false [(.t 44)]⟩,
         ⟨(some 46), none, .app 96 2 32 false (.t 38) (.t 45)⟩,
         ⟨(some 8), none, .asn (.t 46)⟩]) (
       .skip)))))) (
    .reg none [⟨(some 47), none, .bin .add (.t 13) (.c (.int .i64 (1)))⟩,
      ⟨(some 13), none, .mv (.t 47)⟩]))))))) (
 .seq (
  .reg none [⟨(some 48), none, .ld 1 true (.t 3)⟩,
    ⟨(some 49), none, .mv (.t 8)⟩,
    ⟨(some 50), none, .call 116 [(.t 48), (.t 49)]⟩,
    ⟨(some 51), none, .ext 0 (.t 50)⟩,
    ⟨(some 52), none, .ext 1 (.t 50)⟩,
    ⟨(some 6), none, .asn (.t 51)⟩,
    ⟨(some 7), none, .asn (.t 52)⟩]) (
 .ret))))
def r_impl_setMove : Nat × List RV := (53, [.t 6, .t 7])

theorem c_impl_setMove : cmpS PT PF PA (Try.prog.funcs[75]?) = some (r_impl_setMove.1, r_impl_setMove.2, stripK k_impl_setMove) := by kernel_rfl

theorem h_setMove (g : TGram) (cs : List TConf) (x : Int) (hg : gramOk g = true) (hw : wGram g < 2 ^ 31) (hl : lL lConf cs) (hn : wL wConf cs < 2 ^ 31) : CallsF Try.prog 75 [.agg (sGram g), .one (.ar false 0 2 (cs.map sConf)), aI x] (setR (moveO g cs x)) := by
  refine Prun c_impl_setMove (by simp [r_impl_setMove]) (by simp) ?_
  unfold k_impl_setMove r_impl_setMove
  have hrw := fun i (h : i < cs.length) => h_isRow g cs[i].row hw (hl.2 i h)
  have hlen := wL_len wConf cs
  have hml := moveS_len x cs
  have hclo := fun (h : knownS g.parts.length cs = true) => h_closed g (moveS cs x) hg hw (fun c hc => (moveS_ok h c hc).1) (fun c hc => by have := (moveS_ok h c hc).2; omega) (by omega)
  simp only [closR_setR] at hclo
  have hyes : knownS g.parts.length cs = true → moveO g cs x = closO g.parts (moveS cs x) := fun h => by simp [moveO, h]
  have hkd : knownS g.parts.length cs = (cs.drop 0).all (fun c => rowK g.parts.length c.row) := by simp [knownS]
  have hnot : knownS g.parts.length cs = false → moveO g cs x = none := fun h => by simp [moveO, h]
  generalize moveO g cs x = o at *
  obtain ⟨ps⟩ := g
  simp only [sGram] at hrw hclo
  simp only at hyes hkd hnot
  generalize knownS ps.length cs = T at *
  simp [sGram]
  refine awp_loop (fun n σ => ∃ (i : Nat) (M : List TConf), i ≤ cs.length ∧ n = cs.length - i ∧ M = moveS (cs.take i) x ∧ T = (cs.drop i).all (fun c => rowK ps.length c.row) ∧ σ = ⟨[(2, aI x), (3, .one (.pt 1 3 [] 0 0)), (8, .one (.vw 96 2 8 [] 0 M.length)), (11, .one (.ar false 0 2 (cs.map sConf))), (12, aI cs.length), (13, aI i)], [(3, ⟨39, 1, [[.ar false 0 1 (ps.map sISS)]]⟩), (8, ⟨96, 2, M.map sConf⟩)]⟩) (cs.length) ⟨0, [], by omega, rfl, by simp [moveS], hkd, by simp⟩ ?_
  rintro n σ ⟨i, M, hi, rfl, hM, ht, rfl⟩
  by_cases h : i < cs.length
  case neg =>
    have hi' : i = cs.length := by omega
    subst hi'
    rw [all_end h] at ht
    subst ht
    rw [List.take_length] at hM
    subst hM
    rw [hyes rfl]
    simp
    refine callG_F (hclo rfl) (fun _ => setR_noSh _) ?_
    cases closO ps (moveS cs x) <;> simp [setR, noSet]
  rw [all_drop h] at ht
  have wi : IntKind.i64.wrap ((i : Int) + 1) = i + 1 := wrapI (by omega) (by omega)
  have hms := moveS_succ cs x i h
  have hrw := hrw i h
  obtain ⟨c, hc⟩ : ∃ c, cs[i] = c := ⟨_, rfl⟩
  rw [hc] at hrw hms ht
  obtain ⟨alt, row⟩ := c
  simp only at hrw ht
  simp [h, hc, sConf]
  refine callG_F hrw (by simp) ?_
  cases c1 : rowK ps.length row with
  | false =>
    have : T = false := by rw [ht, c1]; simp
    rw [hnot this]
    simp [setR, noSet]
  | true =>
  rw [c1, Bool.true_and] at ht
  have hM2 : (moveS (cs.take (i + 1)) x).length ≤ (cs.take (i + 1)).length := moveS_len x _
  have hM3 : (cs.take (i + 1)).length ≤ cs.length := by simp; omega
  rw [hms, List.length_append, ← hM] at hM2
  have hb : M.length + 1 ≤ 4294967296 := by
    have : M.length ≤ cs.length := by rw [hM]; have := moveS_len x (cs.take i); simp at this; omega
    omega
  have hfin : ∀ M2, M2 = M ++ mvC x ⟨alt, row⟩ → M2 = moveS (cs.take (i + 1)) x := fun M2 h => by rw [h, hms, hM]
  cases row with
  | nil =>
    have := hfin M (by simp [mvC])
    simp [sConf]
    exact ⟨cs.length - (i + 1), by omega, i + 1, by omega, rfl, ht, by rw [← this, wi]; simp⟩
  | cons y r =>
    have n1 : (0 : Int) < r.length + 1 := by omega
    by_cases c2 : y = x
    · simp [n1, c2]
      refine callG_F (h_isLetter _) (by simp) ?_
      cases c3 : inr x 0 25 with
      | false =>
        have := hfin M (by simp [mvC, c3])
        simp
        exact ⟨cs.length - (i + 1), by omega, i + 1, by omega, rfl, ht, by rw [← this, wi]; simp⟩
      | true =>
        have := hfin (M ++ [⟨alt, r⟩]) (by simp [mvC, c2, c3])
        have n2 : (1 : Int) ≤ r.length + 1 := by omega
        simp [n2, hb]
        exact ⟨cs.length - (i + 1), by omega, i + 1, by omega, rfl, ht, by rw [← this, wi]; simp [sConf]⟩
    · have := hfin M (by simp [mvC, c2])
      simp [n1, c2]
      exact ⟨cs.length - (i + 1), by omega, i + 1, by omega, rfl, ht, by rw [← this, wi]; simp⟩
end Go.Am
-- SetBound
namespace Go.Am
open Go.Proofs
set_option maxHeartbeats 4000000
set_option maxRecDepth 100000
attribute [-simp] BitVec.toNat_or BitVec.toNat_and BitVec.toNat_ofInt
theorem closO_bound {ps : Parts} {i S : List TConf} (h : closO ps i = some S) : S.length ≤ 30 ∧ ∀ x ∈ S, x.row.length ≤ 200 := by
  unfold closO at h
  split at h
  · rename_i hx
    obtain ⟨W, hd⟩ := hx.choose_spec
    simp only [Option.some.injEq] at h
    rw [h] at hd
    exact ⟨hd.ls, fun x hxs => (hd.all x (hd.rs x hxs).1).1⟩
  · cases h
theorem wL_bound {w : TConf → Nat} {m : Nat} : ∀ {S : List TConf}, (∀ x ∈ S, w x ≤ m) → wL w S ≤ S.length * (m + 1)
  | [], _ => by simp [wL]
  | x :: S, h => by
    have h1 := h x (List.mem_cons_self ..)
    have h2 := wL_bound (S := S) fun y hy => h y (List.mem_cons_of_mem _ hy)
    simp only [wL, List.length_cons, Nat.add_mul]
    omega
theorem closO_w {ps : Parts} {i : List TConf} : wL wConf ((closO ps i).getD []) ≤ 10000 := by
  cases h : closO ps i with
  | none => simp [wL]
  | some S =>
    obtain ⟨h1, h2⟩ := closO_bound h
    have h3 := wL_bound (w := wConf) (m := 200) (S := S) fun x hx => by simp only [wConf, wL_w0]; exact h2 x hx
    have : S.length * 201 ≤ 30 * 201 := Nat.mul_le_mul_right _ h1
    simp only [Option.getD_some]
    omega
theorem startG_w (g : TGram) (k : Int) (rest : List Int) : wL wConf ((startG g k rest).getD []) ≤ 10000 := by
  unfold startG startO
  split
  · split
    · exact closO_w
    · simp [wL]
  · simp [wL]
theorem setR_eq (o : Option (List TConf)) : setR o = .tup [(false, [.ar true 96 2 ((o.getD []).map rConf)]), (false, [.bool o.isSome])] := by
  cases o <;> simp [setR, noSet]
theorem setB_eq (b : Bool) (o : Option (List TConf)) : ∃ b', setB b o = .tup [(false, [cS b' (o.getD [])]), (false, [.bool o.isSome])] := by
  cases o with
  | none => exact ⟨true, rfl⟩
  | some S => exact ⟨b, rfl⟩
theorem moveG_w (g : TGram) (cs : List TConf) (x : Int) : wL wConf ((moveG g cs x).getD []) ≤ 10000 := by
  unfold moveG moveO
  split
  · split
    · exact closO_w
    · simp [wL]
  · simp [wL]
end Go.Am
-- sim
namespace Go.Am
open Go.Proofs
set_option maxHeartbeats 4000000
set_option maxRecDepth 100000
attribute [-simp] BitVec.toNat_or BitVec.toNat_and BitVec.toNat_ofInt
/-! The least alternative -/
def hdI (l : List Int) : Int := l.getD 0 (-1)
def leF (b x : Int) : Int := if b < 0 ∨ x < b then x else b
theorem setAdd_hd {l : List Int} {x : Int} (hx : 0 ≤ x) (hmin : ∀ y ∈ l, hdI l ≤ y) (hpos : ∀ y ∈ l, 0 ≤ y) :
    hdI (setAdd l x) = leF (hdI l) x ∧ (∀ y ∈ setAdd l x, hdI (setAdd l x) ≤ y) ∧ (∀ y ∈ setAdd l x, 0 ≤ y) ∧ setAdd l x ≠ [] := by
  unfold setAdd
  by_cases hm : x ∈ l
  · rw [if_pos hm]
    have h1 := hmin x hm
    have hne : l ≠ [] := List.ne_nil_of_mem hm
    refine ⟨?_, hmin, hpos, hne⟩
    unfold leF
    cases l with
    | nil => exact absurd rfl hne
    | cons a r =>
      have := hpos a (List.mem_cons_self ..)
      simp only [hdI, List.getD_cons_zero] at h1 ⊢
      rw [if_neg (by omega)]
  · rw [if_neg hm]
    cases l with
    | nil => simp [insAt, hdI, leF, hx]
    | cons a r =>
      have ha := hpos a (List.mem_cons_self ..)
      have hxa : x ≠ a := fun h => hm (by rw [h]; exact List.mem_cons_self ..)
      have hmem : ∀ y, y ∈ (a :: r).take (insAt (a :: r) x) ++ [x] ++ (a :: r).drop (insAt (a :: r) x) ↔ y ∈ a :: r ∨ y = x := fun y => by
        have : y ∈ a :: r ↔ y ∈ (a :: r).take (insAt (a :: r) x) ∨ y ∈ (a :: r).drop (insAt (a :: r) x) := by rw [← List.mem_append, List.take_append_drop]
        simp only [List.mem_append, List.mem_singleton, this]
        constructor
        · rintro ((h | h) | h)
          · exact .inl (.inl h)
          · exact .inr h
          · exact .inl (.inr h)
        · rintro ((h | h) | h)
          · exact .inl (.inl h)
          · exact .inr h
          · exact .inl (.inr h)
      have hpos' : ∀ y ∈ (a :: r).take (insAt (a :: r) x) ++ [x] ++ (a :: r).drop (insAt (a :: r) x), 0 ≤ y := fun y hy => by
        rcases (hmem y).1 hy with h | h
        · exact hpos y h
        · omega
      simp only [hdI, List.getD_cons_zero] at hmin
      have hins : insAt (a :: r) x = if x < a then 0 else insAt r x + 1 := by
        unfold insAt; rw [List.findIdx_cons]; by_cases c : x < a <;> simp [c]
      by_cases c : x < a
      · have e : hdI ((a :: r).take (insAt (a :: r) x) ++ [x] ++ (a :: r).drop (insAt (a :: r) x)) = x := by rw [hins, if_pos c]; simp [hdI]
        refine ⟨?_, fun y hy => ?_, hpos', by simp⟩
        · rw [e]; simp [hdI, leF, c]
        · rw [e]
          rcases (hmem y).1 hy with h | h
          · have := hmin y h; omega
          · omega
      · have e : hdI ((a :: r).take (insAt (a :: r) x) ++ [x] ++ (a :: r).drop (insAt (a :: r) x)) = a := by rw [hins, if_neg c]; simp [hdI]
        refine ⟨?_, fun y hy => ?_, hpos', by simp⟩
        · rw [e]
          have : ¬ a < 0 := by omega
          simp [hdI, leF, c, this]
        · rw [e]
          rcases (hmem y).1 hy with h | h
          · exact hmin y h
          · omega
theorem least_fold : ∀ (xs l : List Int), (∀ x ∈ xs, 0 ≤ x) → (∀ y ∈ l, hdI l ≤ y) → (∀ y ∈ l, 0 ≤ y) →
    xs.foldl leF (hdI l) = hdI (xs.foldl setAdd l) ∧ ((xs.foldl setAdd l = []) ↔ (xs = [] ∧ l = [])) ∧ (∀ y ∈ xs.foldl setAdd l, 0 ≤ y)
  | [], l, _, _, hp => ⟨rfl, by simp, hp⟩
  | x :: xs, l, hx, hm, hp => by
    obtain ⟨h1, h2, h3, h4⟩ := setAdd_hd (hx x (List.mem_cons_self ..)) hm hp
    obtain ⟨k1, k2, k3⟩ := least_fold xs (setAdd l x) (fun y hy => hx y (List.mem_cons_of_mem _ hy)) h2 h3
    simp only [List.foldl_cons]
    rw [← h1]
    refine ⟨k1, ?_, k3⟩
    rw [k2]
    constructor
    · rintro ⟨_, h⟩; exact absurd h h4
    · rintro ⟨h, _⟩; cases h
def leastS (whole : Bool) (xs : List TConf) : Int := xs.foldl (fun b c => if (whole = false ∨ c.row = []) ∧ (b < 0 ∨ c.alt < b) then c.alt else b) (-1)
def wholeL (ended : Bool) (xs : List TConf) : List Int := xs.foldl (fun l c => if ended = true ∧ c.row = [] then setAdd l c.alt else l) []
def pickS (ended : Bool) (xs : List TConf) : Int := if wholeL ended xs = [] then hdI (setAlts xs) else hdI (wholeL ended xs)
def pickB (ended : Bool) (xs : List TConf) : Int := if ended = true ∧ 0 ≤ leastS true xs then leastS true xs else leastS false xs
theorem leastS_all (xs : List TConf) (b : Int) : xs.foldl (fun b c => if (false = false ∨ c.row = []) ∧ (b < 0 ∨ c.alt < b) then c.alt else b) b = (xs.map (·.alt)).foldl leF b := by
  induction xs generalizing b with
  | nil => rfl
  | cons c xs ih => rw [List.foldl_cons, List.map_cons, List.foldl_cons, ih]; simp [leF]
theorem leastS_whole (xs : List TConf) (b : Int) : xs.foldl (fun b c => if (true = false ∨ c.row = []) ∧ (b < 0 ∨ c.alt < b) then c.alt else b) b = ((xs.filter (fun c => decide (c.row = []))).map (·.alt)).foldl leF b := by
  induction xs generalizing b with
  | nil => rfl
  | cons c xs ih =>
    rw [List.foldl_cons, ih, List.filter_cons]
    by_cases h : c.row = [] <;> simp [h, leF]
theorem wholeL_eq (xs : List TConf) (l : List Int) : xs.foldl (fun l c => if true = true ∧ c.row = [] then setAdd l c.alt else l) l = ((xs.filter (fun c => decide (c.row = []))).map (·.alt)).foldl setAdd l := by
  induction xs generalizing l with
  | nil => rfl
  | cons c xs ih =>
    rw [List.foldl_cons, ih, List.filter_cons]
    by_cases h : c.row = [] <;> simp [h]
theorem wholeL_no (xs : List TConf) (l : List Int) : xs.foldl (fun l c => if false = true ∧ c.row = [] then setAdd l c.alt else l) l = l := by
  induction xs generalizing l with
  | nil => rfl
  | cons c xs ih => simp only [List.foldl_cons]; rw [if_neg (by simp)]; exact ih l
theorem setAlts_eq (xs : List TConf) : setAlts xs = (xs.map (·.alt)).foldl setAdd [] := by
  unfold setAlts
  rw [List.foldl_map]
theorem pick_eq (ended : Bool) {xs : List TConf} (h : ∀ c ∈ xs, 0 ≤ c.alt) : pickB ended xs = pickS ended xs := by
  have hall : ∀ x ∈ xs.map (·.alt), 0 ≤ x := fun x hx => by
    obtain ⟨c, hc, rfl⟩ := List.mem_map.1 hx
    exact h c hc
  have hw : ∀ x ∈ (xs.filter (fun c => decide (c.row = []))).map (·.alt), 0 ≤ x := fun x hx => by
    obtain ⟨c, hc, rfl⟩ := List.mem_map.1 hx
    exact h c ((List.mem_filter.1 hc).1)
  obtain ⟨a1, a2, a3⟩ := least_fold _ [] hall (by simp) (by simp)
  obtain ⟨b1, b2, b3⟩ := least_fold _ [] hw (by simp) (by simp)
  have e1 : leastS false xs = hdI (setAlts xs) := by
    rw [setAlts_eq, ← a1]; exact leastS_all xs (-1)
  have e2 : leastS true xs = hdI (wholeL true xs) := by
    unfold wholeL
    rw [wholeL_eq, ← b1]; exact leastS_whole xs (-1)
  have e3 : ∀ y ∈ wholeL true xs, 0 ≤ y := by
    unfold wholeL
    rw [wholeL_eq]; exact b3
  unfold pickB pickS
  cases ended with
  | false =>
    have : wholeL false xs = [] := wholeL_no xs []
    rw [if_pos this, if_neg (by simp), e1]
  | true =>
    rw [e1, e2]
    cases hq : wholeL true xs with
    | nil => simp [hdI]
    | cons a r =>
      rw [hq] at e3
      have := e3 a (List.mem_cons_self ..)
      simp [hdI, this]
theorem setAlts_ne {xs : List TConf} (h : ∀ c ∈ xs, 0 ≤ c.alt) (hne : xs ≠ []) : setAlts xs ≠ [] := by
  have hall : ∀ x ∈ xs.map (·.alt), 0 ≤ x := fun x hx => by
    obtain ⟨c, hc, rfl⟩ := List.mem_map.1 hx
    exact h c hc
  obtain ⟨a1, a2, a3⟩ := least_fold _ [] hall (by simp) (by simp)
  rw [setAlts_eq]
  intro he
  exact hne (List.map_eq_nil_iff.1 (a2.1 he).1)
/-! No closing is empty -/
inductive Der (ps : Parts) : Nat → Prop
  | mk (k : Nat) (row : List Int) : row ∈ ps.getD k [] → (∀ x ∈ row, 100 ≤ x → Der ps (prt x)) → Der ps k
theorem leaf_row {ps : Parts} {init : List TConf} (a : Int) : ∀ (row : List Int) (r : List Int), (∀ x ∈ row, 100 ≤ x → ∀ r', Rch ps init ⟨a, x :: r'⟩ → (∃ c, Rch ps init c ∧ opn c = false) ∨ Rch ps init ⟨a, r'⟩) → Rch ps init ⟨a, row ++ r⟩ → (∃ c, Rch ps init c ∧ opn c = false) ∨ Rch ps init ⟨a, r⟩
  | [], r, _, h => .inr h
  | x :: row, r, hx, h => by
    by_cases c : 100 ≤ x
    · rcases hx x (List.mem_cons_self ..) c _ h with h1 | h1
      · exact .inl h1
      · exact leaf_row a row r (fun y hy => hx y (List.mem_cons_of_mem _ hy)) h1
    · exact .inl ⟨_, h, by simp [opn]; omega⟩
theorem leaf_part {ps : Parts} {init : List TConf} (a : Int) {k : Nat} (hd : Der ps k) : ∀ (x : Int) (r : List Int), 100 ≤ x → prt x = k → Rch ps init ⟨a, x :: r⟩ → (∃ c, Rch ps init c ∧ opn c = false) ∨ Rch ps init ⟨a, r⟩ := by
  induction hd with
  | mk k row hrow _ ih =>
    intro x r hx hk h
    have h2 : Rch ps init ⟨a, row ++ r⟩ := .step h (by simp [opn]; omega) (by simp only [kids, List.mem_map, hk]; exact ⟨row, hrow, rfl⟩)
    exact leaf_row a row r (fun y hy hy2 r' h' => ih y hy hy2 y r' hy2 rfl h') h2
theorem leaf_some {ps : Parts} {init : List TConf} {n : Nat} (hd : ∀ k < n, Der ps k) {c : TConf} (hc : c ∈ init) (hs : c.row.all (symOk n) = true) : ∃ c, Rch ps init c ∧ opn c = false := by
  obtain ⟨a, row⟩ := c
  simp only [List.all_eq_true] at hs
  have h : Rch ps init ⟨a, row ++ []⟩ := by rw [List.append_nil]; exact .base hc
  rcases leaf_row a row [] (fun x hx hx2 r' h' => leaf_part a (hd _ (sym_part (hs x hx) hx2).1) x r' hx2 rfl h') h with h1 | h1
  · exact h1
  · exact ⟨_, h1, rfl⟩
theorem closO_ne {ps : Parts} {init S : List TConf} {n : Nat} (hd : ∀ k < n, Der ps k) {c : TConf} (hc : c ∈ init) (hs : c.row.all (symOk n) = true) (h : closO ps init = some S) : S ≠ [] := by
  obtain ⟨d, hr, ho⟩ := leaf_some hd hc hs
  unfold closO at h
  split at h
  · rename_i hx
    obtain ⟨W, hd⟩ := hx.choose_spec
    simp only [Option.some.injEq] at h
    rw [h] at hd
    rcases (hd.all d hr).2 with h1 | h1
    · exact List.ne_nil_of_mem h1
    · have := (hd.rw' d h1).2; rw [ho] at this; cases this
  · cases h
/-- What the productive parts are. -/
theorem der_step {ps : Parts} {k f : Nat} {al : List (List Int)} (hal : ∀ row ∈ al, row ∈ ps.getD k []) (hf : ∀ j, f.testBit j = true → Der ps j) : ∀ j, (setP prdIn k al f).testBit j = true → Der ps j := by
  induction al generalizing f with
  | nil => exact hf
  | cons row al ih =>
    simp only [setP, List.foldl_cons]
    refine ih (fun r hr => hal r (List.mem_cons_of_mem _ hr)) ?_
    split
    · rename_i hp
      intro j hj
      rw [Nat.testBit_or, Bool.or_eq_true] at hj
      rcases hj with hj | hj
      · exact hf j hj
      · have : j = k := by
          rw [Nat.testBit_two_pow] at hj
          exact (of_decide_eq_true hj).symm
        subst this
        refine .mk j row (hal row (List.mem_cons_self ..)) fun x hx hx2 => hf _ ?_
        simp only [prdIn, List.all_eq_true, Bool.or_eq_true, decide_eq_true_eq] at hp
        rcases hp x hx with h1 | h1
        · omega
        · exact h1
    · exact hf
theorem der_pass {ps : Parts} : ∀ (qs : Parts) (k f : Nat), (∀ i (h : i < qs.length), ∀ row ∈ qs[i], row ∈ ps.getD (k + i) []) → (∀ j, f.testBit j = true → Der ps j) → ∀ j, (passP (setP prdIn) k qs f).testBit j = true → Der ps j
  | [], _, _, _, hf => hf
  | al :: qs, k, f, hq, hf => by
    refine der_pass qs (k + 1) _ (fun i h row hr => ?_) (der_step (fun row hr => ?_) hf)
    · have := hq (i + 1) (by simpa using h) row (by simpa using hr)
      rwa [show k + 1 + i = k + (i + 1) by omega]
    · have := hq 0 (by simp) row (by simpa using hr)
      simpa using this
theorem der_iter {ps : Parts} : ∀ n j, (iter (passP (setP prdIn) 0 ps) n 0).testBit j = true → Der ps j
  | 0, j, h => by simp [iter] at h
  | n + 1, j, h => by
    refine der_pass ps 0 _ (fun i h row hr => ?_) (fun j hj => der_iter n j hj) j h
    simpa [h] using hr
theorem check_der {g : TGram} (h : checkG g = 0) : ∀ k < g.parts.length, Der g.parts k := by
  intro k hk
  have hp : prods g.parts = 2 ^ g.parts.length - 1 := by
    unfold checkG at h
    split at h
    · cases h
    · split at h
      · cases h
      · split at h
        · cases h
        · rename_i hn
          exact Classical.not_not.1 hn
  refine der_iter (g.parts.length + 1) k ?_
  have : (prods g.parts).testBit k = true := by rw [hp, Nat.testBit_two_pow_sub_one]; simpa using hk
  exact this
end Go.Am
-- SimG
namespace Go.Am
open Go.Proofs
set_option maxHeartbeats 4000000
set_option maxRecDepth 100000
attribute [-simp] BitVec.toNat_or BitVec.toNat_and BitVec.toNat_ofInt
theorem Rch.alt {ps : Parts} {init : List TConf} {c : TConf} (h : Rch ps init c) : ∃ d ∈ init, d.alt = c.alt := by
  induction h with
  | base h => exact ⟨_, h, rfl⟩
  | @step c k _ _ hk ih =>
    obtain ⟨d, hd, e⟩ := ih
    refine ⟨d, hd, ?_⟩
    obtain ⟨a, row⟩ := c
    cases row with
    | nil => simp [kids] at hk
    | cons x r =>
      simp only [kids, List.mem_map] at hk
      obtain ⟨al, _, rfl⟩ := hk
      exact e
structure GoodS (S : List TConf) : Prop where
  ne : S ≠ []
  alt : ∀ c ∈ S, 0 ≤ c.alt
  len : S.length ≤ 30
  w : wL wConf S ≤ 10000
  l : lL lConf S
theorem closO_good {g : TGram} (hg : gramOk g = true) {init S : List TConf} (h : closO g.parts init = some S) (hi : ∀ c ∈ init, c.row.all (symOk g.parts.length) = true) (ha : ∀ c ∈ init, 0 ≤ c.alt) (hne : S ≠ []) : GoodS S := by
  obtain ⟨h1, h2⟩ := closO_bound h
  have h3 := closO_w (ps := g.parts) (i := init)
  rw [h] at h3
  have hr : ∀ c ∈ S, Rch g.parts init c := by
    unfold closO at h
    split at h
    · rename_i hx
      obtain ⟨W, hd⟩ := hx.choose_spec
      simp only [Option.some.injEq] at h
      rw [h] at hd
      exact fun c hc => (hd.rs c hc).1
    · cases h
  refine ⟨hne, fun c hc => ?_, h1, h3, by omega, fun i hi' => ?_⟩
  · obtain ⟨d, hd, e⟩ := (hr c hc).alt
    rw [← e]; exact ha d hd
  · have hc := List.getElem_mem hi'
    have h4 := h2 _ hc
    have h5 := (hr _ hc).ok hg hi
    simp only [List.all_eq_true] at h5
    refine ⟨by omega, fun j hj => ?_⟩
    have := sym_lt (gram_len hg).2 (h5 _ (List.getElem_mem hj))
    simp only [l0]; omega
theorem startG_good {g : TGram} {k : Int} {rest : List Int} {S : List TConf} (h : startG g k rest = some S) : checkG g = 0 ∧ GoodS S := by
  unfold startG at h
  split at h
  case isFalse => cases h
  rename_i hc
  have hg := check_gram hc
  unfold startO at h
  split at h
  case isFalse => cases h
  rename_i hk
  rw [Bool.and_eq_true] at hk
  have hso := startS_ok hg hk.1 hk.2
  have halt : ∀ c ∈ startS g k rest, 0 ≤ c.alt := fun c hc => by
    simp only [startS, startC, List.mem_map, List.mem_range] at hc
    obtain ⟨i, _, rfl⟩ := hc
    exact Int.natCast_nonneg i
  have hk1 := hk.1
  rw [inr_iff] at hk1
  have hgl := gram_len hg
  have hkn : k.toNat < g.parts.length := by omega
  have hal : 1 ≤ (g.parts.getD k.toNat []).length := by
    rw [List.getD_eq_getElem?_getD, List.getElem?_eq_getElem hkn, Option.getD_some]
    simp only [gramOk, Bool.and_eq_true, List.all_eq_true] at hg
    have h1 := hg.2 _ (List.getElem_mem hkn)
    simp only [altsOk, Bool.and_eq_true, inr_iff] at h1
    omega
  have hlen : 0 < (startS g k rest).length := by unfold startS; rw [startC_len]; omega
  have hm := List.getElem_mem hlen
  exact ⟨hc, closO_good hg h (fun c hc => (hso c hc).1) halt (closO_ne (check_der hc) hm (hso _ hm).1 h)⟩
theorem moveG_good {g : TGram} {S N : List TConf} {x : Int} (hS : GoodS S) (h : moveG g S x = some N) (hne : N ≠ []) : GoodS N := by
  unfold moveG at h
  split at h
  case isFalse => cases h
  rename_i hc
  have hg := check_gram hc
  unfold moveO at h
  split at h
  case isFalse => cases h
  rename_i hk
  refine closO_good hg h (fun c hc => (moveS_ok hk c hc).1) (fun c hc => ?_) hne
  simp only [moveS, List.mem_flatMap] at hc
  obtain ⟨d, hd, hcd⟩ := hc
  have := hS.alt d hd
  unfold mvC at hcd
  split at hcd
  · cases hcd
  · split at hcd
    · simp only [List.mem_singleton] at hcd
      subst hcd
      exact this
    · cases hcd
/-- Looking ahead by sets. -/
noncomputable def simF (g : TGram) (w : List Int) (a : Nat) : Nat → List TConf → Nat → Bool → Option (List TConf × Nat × Bool)
  | 0, S, l, d => some (S, l, d)
  | f + 1, S, l, d => if d = false ∧ 1 < (setAlts S).length ∧ a + l < w.length then
      match moveG g S (w.getD (a + l) 0) with
      | none => none
      | some N => simF g w a f (if N = [] then S else N) (l + 1) (decide (N = []))
    else some (S, l, d)
def resS (w : List Int) (a : Nat) : Option (List TConf × Nat × Bool) → A
  | none => .tup [(false, [cI (-1)]), (false, [cI 0]), (false, [.bool false])]
  | some (S, l, d) => .tup [(false, [cI (pickS (!d && decide (a + l = w.length)) S)]), (false, [cI l]), (false, [.bool true])]
noncomputable def simR (g : TGram) (k : Int) (rest w : List Int) (a : Int) : A :=
  if inputOk w && inr a 0 w.length then match startG g k rest with
    | none => resS w a.toNat none
    | some S => resS w a.toNat (simF g w a.toNat (w.length + 1 - a.toNat) S 0 false)
  else resS w a.toNat none
theorem simF_stop {g : TGram} {w : List Int} {a f : Nat} {S : List TConf} {l : Nat} {d : Bool} (h : ¬ (d = false ∧ 1 < (setAlts S).length ∧ a + l < w.length)) : simF g w a f S l d = some (S, l, d) := by
  cases f with
  | zero => rfl
  | succ f => rw [simF, if_neg h]
theorem simF_step {g : TGram} {w : List Int} {a l : Nat} {S : List TConf} (h1 : 1 < (setAlts S).length) (h2 : a + l < w.length) : simF g w a (w.length + 1 - (a + l)) S l false = match moveG g S w[a + l] with
      | none => none
      | some N => simF g w a (w.length + 1 - (a + (l + 1))) (if N = [] then S else N) (l + 1) (decide (N = [])) := by
  rw [show w.length + 1 - (a + l) = (w.length + 1 - (a + (l + 1))) + 1 by omega, simF, if_pos ⟨rfl, h1, h2⟩, List.getD_eq_getElem?_getD, List.getElem?_eq_getElem h2, Option.getD_some]
end Go.Am
