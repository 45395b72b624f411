/- PROVED: what the program says of a store, right or not, is what the reference says -/
import Derived.Test.YtfcbminodkjklaaStoreOk2
import Derived.Test.YtfcbminodkjklaaRows
import Derived.ProofKit
set_option linter.unusedVariables false
set_option linter.unusedSimpArgs false
-- SetMove2
namespace Go.Am
open Go.Proofs
set_option maxHeartbeats 4000000
set_option maxRecDepth 100000
attribute [-simp] BitVec.toNat_or BitVec.toNat_and BitVec.toNat_ofInt
attribute [-simp] rLine_len sLine_len shr_rLine shr_sLine shrs_rLine shrs_sLine noSh_rLine mLine_wr mLine_n rStore_len sStore_len shr_rStore shr_sStore shrs_rStore shrs_sStore noSh_rStore mStore_wr mStore_n
-- 37 loop.example/g00485/impl.SetMove
def k_impl_SetMove : K :=
 .seq (
  .reg none [⟨(some 3), none, .box 39 1 (.t 0)⟩,
    ⟨(some 6), none, .asn (.c (.ar true 96 2 []))⟩,
    ⟨(some 7), none, .asn (.c (.bool false))⟩]) (
 .seq (
  .seq (
   .reg none [⟨(some 8), none, .ld 1 true (.t 3)⟩,
     ⟨(some 9), none, .call 58 [(.t 8)]⟩,
     ⟨(some 10), none, .not (.t 9)⟩]) (
  .cond (.t 10) (
   .seq (
    .reg none [⟨(some 6), none, .asn (.c (.ar true 96 2 []))⟩,
      ⟨(some 7), none, .asn (.c (.bool false))⟩]) (
   .ret)) (
   .skip))) (
 .seq (
  .reg none [⟨(some 11), none, .ld 1 true (.t 3)⟩,
    ⟨(some 12), none, .mv (.t 1)⟩,
    ⟨(some 13), none, .mv (.t 2)⟩,
    ⟨(some 14), none, .call 75 [(.t 11), (.t 12), (.t 13)]⟩,
    ⟨(some 15), none, .ext 0 (.t 14)⟩,
    ⟨(some 16), none, .ext 1 (.t 14)⟩,
    ⟨(some 6), none, .asn (.t 15)⟩,
    ⟨(some 7), none, .asn (.t 16)⟩]) (
 .ret)))
def r_impl_SetMove : Nat × List RV := (17, [.t 6, .t 7])

theorem c_impl_SetMove : cmpS PT PF PA (Try.prog.funcs[37]?) = some (r_impl_SetMove.1, r_impl_SetMove.2, stripK k_impl_SetMove) := by kernel_rfl

theorem h_impl_SetMove (g : TGram) (cs : List TConf) (x : Int) (hw : wGram g < 2 ^ 31) (hl : lGram g) (hlc : lL lConf cs) (hn : wL wConf cs < 2 ^ 31) : CallsF Try.prog 37 [.agg (sGram g), .one (.ar false 0 2 (cs.map sConf)), aI x] (setR (moveG g cs x)) := by
  refine Prun c_impl_SetMove (by simp [r_impl_SetMove]) (by simp) ?_
  unfold k_impl_SetMove r_impl_SetMove
  have hgd := h_isGood g hw hl
  have hs := fun h => h_setMove g cs x (check_gram h) hw hlc hn
  have e1 : checkG g = 0 → moveG g cs x = moveO g cs x := fun h => by simp [moveG, h]
  have e2 : ¬ checkG g = 0 → moveG g cs x = none := fun h => by simp [moveG, h]
  generalize moveG g cs x = o at *
  obtain ⟨ps⟩ := g
  simp only [sGram] at hgd hs
  simp [sGram]
  refine callG_F hgd (by simp) ?_
  by_cases c : checkG ⟨ps⟩ = 0
  · have hs := hs c
    rw [e1 c]
    simp [c]
    refine callG_F hs (by simp) ?_
    cases moveO ⟨ps⟩ cs x <;> simp [setR, noSet]
  · rw [e2 c]
    simp [c, setR, noSet]
-- 35 loop.example/g00485/spec.SetMove
def k_spec_SetMove : K :=
 .seq (
  .reg none [⟨(some 3), none, .box 39 1 (.t 0)⟩,
    ⟨(some 6), none, .asn (.c (.ar true 96 2 []))⟩,
    ⟨(some 7), none, .asn (.c (.bool false))⟩]) (
 .seq (
  .reg none [⟨(some 13), none, .bls 96 2 false []⟩,
    ⟨(some 8), none, .asn (.t 13)⟩]) (
 .seq (
  .seq (
   .reg none [⟨(some 14), none, .ld 1 true (.t 3)⟩,
     ⟨(some 15), none, .call 53 [(.t 14)]⟩,
     ⟨(some 16), none, .bin .neq (.t 15) (.c (.int .i64 (0)))⟩]) (
  .cond (.t 16) (
   .seq (
    .reg none [⟨(some 17), none, .mv (.t 8)⟩,
      ⟨(some 6), none, .asn (.t 17)⟩,
      ⟨(some 7), none, .asn (.c (.bool false))⟩]) (
   .ret)) (
   .skip))) (
 .seq (
  .seq (
   .reg none [⟨(some 9), none, .asn (.c (.int .i64 (0)))⟩]) (
  .block 0 (
   .loop (some ([1, 2, 3, 8, 9], [1, 2, 3, 8, 9, 1000])) (
    .seq (
     .seq (
      .reg none [⟨(some 18), none, .mv (.t 9)⟩,
        ⟨(some 19), none, .mv (.t 1)⟩,
        ⟨(some 20), none, .len (.t 19)⟩,
        ⟨(some 21), none, .bin .lss (.t 18) (.t 20)⟩]) (
     .cond (.t 21) (
      .skip) (
      .exit 0))) (
    .seq (
     .block 1 (
      .seq (
       .drw none 8 [⟨(some 24), none, .ld 1 true (.t 3)⟩,
         ⟨(some 25), none, .mv (.t 1)⟩,
         ⟨(some 26), none, .mv (.t 9)⟩,
         ⟨(some 27), none, .iad 2 (.t 25) (.t 26)⟩,
         ⟨(some 28), none, .fad 1 (.t 27)⟩,
         ⟨(some 29), none, .ld 1 false (.t 28)⟩,
         ⟨(some 30), none, .call 55 [(.t 24), (.t 29)]⟩,
         ⟨(some 31), none, .not (.t 30)⟩]) (
      .cond (.t 31) (
       .seq (
        .reg none [⟨(some 32), none, .mv (.t 8)⟩,
          ⟨(some 6), none, .asn (.t 32)⟩,
          ⟨(some 7), none, .asn (.c (.bool false))⟩]) (
       .ret)) (
       .skip)))) (
    .reg none [⟨(some 22), none, .mv (.t 9)⟩,
      ⟨(some 23), none, .bin .add (.t 22) (.c (.int .i64 (1)))⟩,
      ⟨(some 9), none, .asn (.t 23)⟩])))))) (
 .seq (
  .reg none [⟨(some 33), none, .bld false [(.ar true 96 2 []), (.ar true 96 2 []), (.bool false)] [(2, 1, (.c (.bool true)))]⟩,
    ⟨(some 34), none, .box 89 3 (.t 33)⟩,
    ⟨(some 10), none, .asn (.t 34)⟩]) (
 .seq (
  .seq (
   .reg none [⟨(some 11), none, .asn (.c (.int .i64 (0)))⟩]) (
  .block 2 (
   .loop (some ([1, 2, 3, 8, 10, 11], [1, 2, 3, 8, 10, 11, 34, 1000])) (
    .seq (
     .seq (
      .reg none [⟨(some 35), none, .mv (.t 11)⟩,
        ⟨(some 36), none, .mv (.t 1)⟩,
        ⟨(some 37), none, .len (.t 36)⟩,
        ⟨(some 38), none, .bin .lss (.t 35) (.t 37)⟩]) (
     .cond (.t 38) (
      .skip) (
      .exit 2))) (
    .seq (
     .block 3 (
      .seq (
       .reg none [⟨(some 41), none, .mv (.t 1)⟩,
         ⟨(some 42), none, .mv (.t 11)⟩,
         ⟨(some 43), none, .iad 2 (.t 41) (.t 42)⟩,
         ⟨(some 44), none, .fad 1 (.t 43)⟩,
         ⟨(some 45), none, .ld 1 false (.t 44)⟩,
         ⟨(some 12), none, .asn (.t 45)⟩]) (
      .seq (
       .reg none [⟨(some 46), none, .mv (.t 12)⟩,
         ⟨(some 47), none, .len (.t 46)⟩,
         ⟨(some 48), none, .bin .gtr (.t 47) (.c (.int .i64 (0)))⟩,
         ⟨(some 49), none, .mv (.t 48)⟩,
         ⟨(some 50), (some (49, true)), .mv (.t 12)⟩,
         ⟨(some 51), (some (49, true)), .iad 1 (.t 50) (.c (.int .i64 (0)))⟩,
         ⟨(some 52), (some (49, true)), .ld 1 false (.t 51)⟩,
         ⟨(some 53), (some (49, true)), .mv (.t 2)⟩,
         ⟨(some 54), (some (49, true)), .bin .eql (.t 52) (.t 53)⟩,
         ⟨(some 55), none, .pick (.t 49) (.t 54) (.c (.bool false))⟩,
         ⟨(some 56), none, .mv (.t 55)⟩,
         ⟨(some 57), (some (56, true)), .mv (.t 2)⟩,
         ⟨(some 58), (some (56, true)), .bin .lss (.t 57) (.c (.int .i64 (100)))⟩,
         ⟨(some 59), none, .pick (.t 56) (.t 58) (.c (.bool false))⟩]) (
      .cond (.t 59) (
       .drw none 0 [⟨(some 60), none, .ld 1 true (.t 3)⟩,
         ⟨(some 61), none, .mv (.t 10)⟩,
         ⟨(some 62), none, .mv (.t 1)⟩,
         ⟨(some 63), none, .mv (.t 11)⟩,
         ⟨(some 64), none, .iad 2 (.t 62) (.t 63)⟩,
         ⟨(some 65), none, .fad 0 (.t 64)⟩,
         ⟨(some 66), none, .ld 1 false (.t 65)⟩,
         ⟨(some 68), none, .mv (.t 12)⟩,
         ⟨(some 69), none, .slc 1 (.t 68) (some (.c (.int .i64 (1)))) none⟩,
         ⟨(some 67), none, .bls 3 1 false []⟩,
         ⟨(some 70), none, .app 3 1 8 false (.t 67) (.t 69)⟩,
         ⟨(some 71), none, .callzr 56 [70] (.t 61) [(.t 60), (.t 61), (.t 66), (.t 70)]⟩]) (
       .skip))))) (
    .reg none [⟨(some 39), none, .mv (.t 11)⟩,
      ⟨(some 40), none, .bin .add (.t 39) (.c (.int .i64 (1)))⟩,
      ⟨(some 11), none, .asn (.t 40)⟩])))))) (
 .seq (
  .seq (
   .reg none [⟨(some 72), none, .mv (.t 10)⟩,
     ⟨(some 73), none, .nil (.t 72)⟩,
     ⟨(some 74), none, .fad 2 (.t 73)⟩,
     ⟨(some 75), none, .ld 1 false (.t 74)⟩,
     ⟨(some 76), none, .not (.t 75)⟩]) (
  .cond (.t 76) (
   .seq (
    .reg none [⟨(some 77), none, .mv (.t 8)⟩,
      ⟨(some 6), none, .asn (.t 77)⟩,
      ⟨(some 7), none, .asn (.c (.bool false))⟩]) (
   .ret)) (
   .skip))) (
 .seq (
  .reg none [⟨(some 78), none, .mv (.t 10)⟩,
    ⟨(some 79), none, .nil (.t 78)⟩,
    ⟨(some 80), none, .fad 0 (.t 79)⟩,
    ⟨(some 81), none, .ld 1 false (.t 80)⟩,
    ⟨(some 6), none, .asn (.t 81)⟩,
    ⟨(some 7), none, .asn (.c (.bool true))⟩]) (
 .ret))))))))
def r_spec_SetMove : Nat × List RV := (82, [.t 6, .t 7])

theorem c_spec_SetMove : cmpS PT PF PA (Try.prog.funcs[35]?) = some (r_spec_SetMove.1, r_spec_SetMove.2, stripK k_spec_SetMove) := by kernel_rfl

theorem h_spec_SetMove (g : TGram) (cs : List TConf) (x : Int) (hw : wGram g < 2 ^ 31) (hl : lGram g) (hn : wL wConf cs < 2 ^ 31) : CallsA Try.prog 35 [.agg (sGram g), .one (.ar false 0 2 (cs.map sConf)), aI x] [] (SetP (moveG g cs x)) := by
  have hck := h_spec_Check g hw hl
  have hlen := wL_len wConf cs
  have hkn := fun i (h : i < cs.length) => h_spec_l8Known g cs[i].row hw (by have := wL_get wConf cs i h; simp only [wConf, wL_w0] at this; omega)
  have hno : moveG g cs x = none → SetP (moveG g cs x) noSet [] := fun h => by rw [h]; exact ⟨rfl, true, rfl⟩
  have hsm : ∀ b S, moveG g cs x = some S → SetP (moveG g cs x) (.tup [(false, [cS b S]), (false, [.bool true])]) [] := fun b S h => by rw [h]; exact ⟨rfl, b, rfl⟩
  have e1 : checkG g = 0 → moveG g cs x = moveO g cs x := fun h => by simp [moveG, h]
  have e2 : ¬ checkG g = 0 → moveG g cs x = none := fun h => by simp [moveG, h]
  have hyes : knownS g.parts.length cs = true → moveO g cs x = closO g.parts (moveS cs x) := fun h => by simp [moveO, h]
  have hnot : knownS g.parts.length cs = false → moveO g cs x = none := fun h => by simp [moveO, h]
  generalize moveG g cs x = o at *
  generalize hQ : SetP o = Q at *
  simp only [noSet] at hno
  refine PrunA c_spec_SetMove (by simp [r_spec_SetMove]) (by simp) ?_
  unfold k_spec_SetMove r_spec_SetMove
  obtain ⟨ps⟩ := g
  simp only [sGram] at hck hkn
  simp only at hkn hyes hnot
  simp [sGram]
  refine callG_F hck (by simp) ?_
  by_cases c : checkG ⟨ps⟩ = 0
  case neg =>
    have hno := hno (e2 c)
    simp [c]
    exact hno
  have hg := check_gram c
  have e1 := e1 c
  rw [e1] at hno hsm
  have hkd : knownS ps.length cs = (cs.drop 0).all (fun c => rowK ps.length c.row) := by simp [knownS]
  have hknS : ∀ i (h : i < cs.length), knownS ps.length cs = true → rowK ps.length cs[i].row = true := fun i h hk => by
    simp only [knownS, List.all_eq_true] at hk
    exact hk _ (List.getElem_mem h)
  have hmo : knownS ps.length cs = true → ∀ i, ∀ d ∈ moveS (cs.take i) x, d.row.all (symOk ps.length) = true ∧ d.row.length ≤ 200 := fun hk i => moveS_ok (by
    simp only [knownS, List.all_eq_true] at hk ⊢
    exact fun c hc => hk c (List.mem_of_mem_take hc))
  simp [c]
  refine awp_loop (fun n σ => ∃ (i : Nat), i ≤ cs.length ∧ n = cs.length - i ∧ knownS ps.length cs = (cs.drop i).all (fun c => rowK ps.length c.row) ∧ σ = ⟨[(1, .one (.ar false 0 2 (cs.map sConf))), (2, aI x), (3, .one (.pt 1 3 [] 0 0)), (8, .one (.vw 96 2 8 [] 0 0)), (9, aI i)], [(3, ⟨39, 1, [[.ar false 0 1 (ps.map sISS)]]⟩), (8, ⟨96, 2, []⟩)]⟩) (cs.length) ⟨0, by omega, rfl, hkd, by simp⟩ ?_
  rintro n σ ⟨i, hi, rfl, ht, rfl⟩
  by_cases h : i < cs.length
  case pos =>
    rw [all_drop h] at ht
    have wi : IntKind.i64.wrap ((i : Int) + 1) = i + 1 := wrapI (by omega) (by omega)
    have hkn := hkn i h
    obtain ⟨c, hc⟩ : ∃ c, cs[i] = c := ⟨_, rfl⟩
    rw [hc] at hkn ht
    obtain ⟨alt, row⟩ := c
    simp only at hkn ht
    simp [h, hc, sConf]
    refine ⟨_, by simp, hkn, ?_⟩
    cases c1 : rowK ps.length row with
    | false =>
      have := hno (hnot (by rw [ht, c1]; simp))
      simp
      exact this
    | true =>
      rw [c1, Bool.true_and] at ht
      simp
      exact ⟨cs.length - (i + 1), by omega, i + 1, by omega, rfl, ht, by rw [wi]; simp⟩
  have hi' : i = cs.length := by omega
  subst hi'
  rw [all_end h] at ht
  have e3 := hyes ht
  have hmo := hmo ht
  have hknS := fun i h => hknS i h ht
  simp [sConf]
  refine awp_loop (WorkI ps (fun i => moveS (cs.take i) x) cs.length (fun i => [(1, .one (.ar false 0 2 (cs.map sConf))), (2, aI x), (3, .one (.pt 1 3 [] 0 0)), (8, .one (.vw 96 2 8 [] 0 0)), (10, .one (.pt 3 34 [] 0 0)), (11, aI i)]) [(3, ⟨39, 1, [[.ar false 0 1 (ps.map sISS)]]⟩), (8, ⟨96, 2, []⟩)] 34) cs.length ⟨0, true, true, [], [], true, by omega, rfl, .inl ⟨rfl, by simpa [moveS] using Part.nil⟩, by simp [wkO]⟩ ?_
  clear hi h
  rintro n σ ⟨i, bs, bw, S, W, ok, hi, rfl, hC, rfl⟩
  by_cases h : i < cs.length
  case neg =>
    have hi' : i = cs.length := by omega
    subst hi'
    simp only [List.take_length] at hC
    rcases hC with ⟨hb, hP⟩ | ⟨hb, hM⟩
    · have : ok = true := by simpa using hb
      subst this
      have hs := hsm bs S (by rw [e3, closO_some hP.done])
      cases bs <;> simp [wkO] <;> simp at hs <;> exact hs
    · have : ok = false := by simpa using hb
      subst this
      have hs := hno (by rw [e3, closO_none hM])
      simp [wkO]
      exact hs
  have wi : IntKind.i64.wrap ((i : Int) + 1) = i + 1 := wrapI (by omega) (by omega)
  have hms := moveS_succ cs x i h
  have hcl := h_spec_l11Close ⟨ps⟩ hg hw (moveS (cs.take (i + 1)) x) (fun c hc => (hmo (i + 1) c hc).1) 201 []
  have hkr := hknS i h
  obtain ⟨c, hc⟩ : ∃ c, cs[i] = c := ⟨_, rfl⟩
  rw [hc] at hms hkr
  obtain ⟨alt, row⟩ := c
  have hsame : mvC x ⟨alt, row⟩ = [] → Clo ps (moveS (cs.take (i + 1)) x) [] S W (!ok) := fun e => by rw [hms, e, List.append_nil]; exact hC
  have hnext : ∀ r, mvC x ⟨alt, row⟩ = [⟨alt, r⟩] → Clo ps (moveS (cs.take (i + 1)) x) ([] ++ [⟨alt, r⟩]) S W (!ok) := fun r e => by
    rw [hms, e]
    rcases hC with ⟨h1, h2⟩ | ⟨h1, h2⟩
    · exact .inl ⟨h1, h2.next _⟩
    · exact .inr ⟨h1, h2.mono fun x hx => List.mem_append_left _ hx⟩
  cases row with
  | nil =>
    have hs := hsame (by simp [mvC])
    simp [h, hc, sConf, wkO]
    exact ⟨cs.length - (i + 1), by omega, i + 1, bs, bw, S, W, ok, by omega, rfl, hs, by simp [wi, wkO, sConf]⟩
  | cons y r =>
    have n1 : (0 : Int) < r.length + 1 := by omega
    have n2 : (1 : Int) ≤ r.length + 1 := by omega
    simp only at hkr
    have hrl : r.length ≤ 199 := by simp only [rowK, Bool.and_eq_true, decide_eq_true_eq, List.length_cons] at hkr; omega
    have hb1 : r.length ≤ 4294967296 := by omega
    by_cases c2 : y = x
    · have hlt := letter_lt hkr c2
      by_cases c3 : x < 100
      · have hcall := hcl ⟨alt, r⟩ S W bs bw ok (hnext r (by simp [mvC, c2, hlt, c3])) (fun _ => by omega) (by simp; omega)
        simp only [sGram] at hcall
        simp [h, hc, sConf, wkO, n1, n2, c2, c3, hb1]
        refine CallsA.mono hcall ?_
        rintro r1 H1 ⟨bs2, bw2, S3, W3, ok3, rfl, rfl, hC3, hW3⟩
        refine ⟨_, rfl, rfl, rfl, .inl rfl, by simp, ?_⟩
        simp
        exact ⟨cs.length - (i + 1), by omega, i + 1, bs2, bw2, S3, W3, ok3, by omega, rfl, hC3, by simp [wi, wkO, sConf]⟩
      · have hs := hsame (by simp [mvC, c2, hlt, c3])
        simp [h, hc, sConf, wkO, n1, n2, c2, c3]
        exact ⟨cs.length - (i + 1), by omega, i + 1, bs, bw, S, W, ok, by omega, rfl, hs, by simp [wi, wkO, sConf]⟩
    · have hs := hsame (by simp [mvC, c2])
      simp [h, hc, sConf, wkO, n1, n2, c2]
      exact ⟨cs.length - (i + 1), by omega, i + 1, bs, bw, S, W, ok, by omega, rfl, hs, by simp [wi, wkO, sConf]⟩
end Go.Am
-- SetBound
namespace Go.Am
open Go.Proofs
set_option maxHeartbeats 4000000
set_option maxRecDepth 100000
attribute [-simp] BitVec.toNat_or BitVec.toNat_and BitVec.toNat_ofInt
attribute [-simp] rLine_len sLine_len shr_rLine shr_sLine shrs_rLine shrs_sLine noSh_rLine mLine_wr mLine_n rStore_len sStore_len shr_rStore shr_sStore shrs_rStore shrs_sStore noSh_rStore mStore_wr mStore_n
theorem closO_bound {ps : Parts} {i S : List TConf} (h : closO ps i = some S) : S.length ≤ 30 ∧ ∀ x ∈ S, x.row.length ≤ 200 := by
  unfold closO at h
  split at h
  · rename_i hx
    obtain ⟨W, hd⟩ := hx.choose_spec
    simp only [Option.some.injEq] at h
    rw [h] at hd
    exact ⟨hd.ls, fun x hxs => (hd.all x (hd.rs x hxs).1).1⟩
  · cases h
theorem wL_bound {w : TConf → Nat} {m : Nat} : ∀ {S : List TConf}, (∀ x ∈ S, w x ≤ m) → wL w S ≤ S.length * (m + 1)
  | [], _ => by simp [wL]
  | x :: S, h => by
    have h1 := h x (List.mem_cons_self ..)
    have h2 := wL_bound (S := S) fun y hy => h y (List.mem_cons_of_mem _ hy)
    simp only [wL, List.length_cons, Nat.add_mul]
    omega
theorem closO_w {ps : Parts} {i : List TConf} : wL wConf ((closO ps i).getD []) ≤ 10000 := by
  cases h : closO ps i with
  | none => simp [wL]
  | some S =>
    obtain ⟨h1, h2⟩ := closO_bound h
    have h3 := wL_bound (w := wConf) (m := 200) (S := S) fun x hx => by simp only [wConf, wL_w0]; exact h2 x hx
    have : S.length * 201 ≤ 30 * 201 := Nat.mul_le_mul_right _ h1
    simp only [Option.getD_some]
    omega
theorem startG_w (g : TGram) (k : Int) (rest : List Int) : wL wConf ((startG g k rest).getD []) ≤ 10000 := by
  unfold startG startO
  split
  · split
    · exact closO_w
    · simp [wL]
  · simp [wL]
theorem setR_eq (o : Option (List TConf)) : setR o = .tup [(false, [.ar true 96 2 ((o.getD []).map rConf)]), (false, [.bool o.isSome])] := by
  cases o <;> simp [setR, noSet]
theorem setB_eq (b : Bool) (o : Option (List TConf)) : ∃ b', setB b o = .tup [(false, [cS b' (o.getD [])]), (false, [.bool o.isSome])] := by
  cases o with
  | none => exact ⟨true, rfl⟩
  | some S => exact ⟨b, rfl⟩
theorem moveG_w (g : TGram) (cs : List TConf) (x : Int) : wL wConf ((moveG g cs x).getD []) ≤ 10000 := by
  unfold moveG moveO
  split
  · split
    · exact closO_w
    · simp [wL]
  · simp [wL]
end Go.Am
-- StoreOk
namespace Go.Am
open Go.Proofs
set_option maxHeartbeats 4000000
set_option maxRecDepth 100000
attribute [-simp] BitVec.toNat_or BitVec.toNat_and BitVec.toNat_ofInt
open Classical in
/-- A line is as it must be: it says what the move says, and none before it is alike. -/
noncomputable def lineG (g : TGram) (ls : List TLine) (i : Nat) : Bool := match ls[i]? with
  | some l => decide (moveG g l.frm l.letter = some l.too) && decide (findF (pL l.frm l.letter) (ls.take i) 0 = -1)
  | none => true
noncomputable def allG (g : TGram) (ls : List TLine) : Nat → Nat → Bool
  | 0, _ => true
  | k + 1, i => lineG g ls i && allG g ls k (i + 1)
theorem allG_step {g : TGram} {ls : List TLine} {i : Nat} (h : i < ls.length) : allG g ls (ls.length - i) i = (lineG g ls i && allG g ls (ls.length - (i + 1)) (i + 1)) := by
  rw [show ls.length - i = (ls.length - (i + 1)) + 1 by omega, allG]
theorem allG_end {g : TGram} {ls : List TLine} {i : Nat} (h : ¬ i < ls.length) : allG g ls (ls.length - i) i = true := by
  rw [show ls.length - i = 0 by omega, allG]
noncomputable def storeG (g : TGram) (s : TStore) : Bool := decide (checkG g = 0) && (inr s.cap 1 16 && (decide (s.lines.length ≤ s.cap) && allG g s.lines s.lines.length 0))
theorem lineG_get {g : TGram} {ls : List TLine} {i : Nat} (h : i < ls.length) : lineG g ls i = (decide (moveG g ls[i].frm ls[i].letter = some ls[i].too) && decide (findF (pL ls[i].frm ls[i].letter) (ls.take i) 0 = -1)) := by
  simp [lineG, h]
theorem pL_self (l : TLine) : pL l.frm l.letter l = true := by simp [pL]
theorem find_neg {p : TLine → Bool} {ls : List TLine} : (0 ≤ findF p ls 0) ↔ ¬ findF p ls 0 = -1 := by
  rcases find_ge (p := p) (ls := ls) (i := 0) (by omega) with h | h
  · rw [h]; constructor <;> intro h2 <;> omega
  · constructor <;> intro h2 <;> omega
-- 41 loop.example/g00485/spec.StoreOk
def k_spec_StoreOk : K :=
 .seq (
  .reg none [⟨(some 2), none, .box 39 1 (.t 0)⟩,
    ⟨(some 3), none, .box 75 2 (.t 1)⟩,
    ⟨(some 4), none, .asn (.c (.bool false))⟩]) (
 .seq (
  .seq (
   .reg none [⟨(some 8), none, .ld 1 true (.t 2)⟩,
     ⟨(some 9), none, .call 53 [(.t 8)]⟩,
     ⟨(some 10), none, .bin .neq (.t 9) (.c (.int .i64 (0)))⟩,
     ⟨(some 11), none, .mv (.t 10)⟩,
     ⟨(some 12), (some (11, false)), .fad 0 (.t 3)⟩,
     ⟨(some 13), (some (11, false)), .ld 1 false (.t 12)⟩,
     ⟨(some 14), (some (11, false)), .call 54 [(.t 13), (.c (.int .i64 (1))), (.c (.int .i64 (16)))]⟩,
     ⟨(some 15), (some (11, false)), .not (.t 14)⟩,
     ⟨(some 16), none, .pick (.t 11) (.c (.bool true)) (.t 15)⟩,
     ⟨(some 17), none, .mv (.t 16)⟩,
     ⟨(some 18), (some (17, false)), .fad 1 (.t 3)⟩,
     ⟨(some 19), (some (17, false)), .ld 1 false (.t 18)⟩,
     ⟨(some 20), (some (17, false)), .len (.t 19)⟩,
     ⟨(some 21), (some (17, false)), .fad 0 (.t 3)⟩,
     ⟨(some 22), (some (17, false)), .ld 1 false (.t 21)⟩,
     ⟨(some 23), (some (17, false)), .bin .gtr (.t 20) (.t 22)⟩,
     ⟨(some 24), none, .pick (.t 17) (.c (.bool true)) (.t 23)⟩]) (
  .cond (.t 24) (
   .seq (
    .reg none [⟨(some 4), none, .asn (.c (.bool false))⟩]) (
   .ret)) (
   .skip))) (
 .seq (
  .seq (
   .reg none [⟨(some 5), none, .asn (.c (.int .i64 (0)))⟩]) (
  .block 0 (
   .loop (some ([2, 3, 5], [2, 3, 5, 1000])) (
    .seq (
     .seq (
      .reg none [⟨(some 25), none, .mv (.t 5)⟩,
        ⟨(some 26), none, .fad 1 (.t 3)⟩,
        ⟨(some 27), none, .ld 1 false (.t 26)⟩,
        ⟨(some 28), none, .len (.t 27)⟩,
        ⟨(some 29), none, .bin .lss (.t 25) (.t 28)⟩]) (
     .cond (.t 29) (
      .skip) (
      .exit 0))) (
    .seq (
     .block 1 (
      .seq (
       .drw none 0 [⟨(some 33), none, .ld 1 true (.t 2)⟩,
         ⟨(some 34), none, .fad 1 (.t 3)⟩,
         ⟨(some 35), none, .ld 1 false (.t 34)⟩,
         ⟨(some 36), none, .mv (.t 5)⟩,
         ⟨(some 37), none, .iad 3 (.t 35) (.t 36)⟩,
         ⟨(some 38), none, .fad 0 (.t 37)⟩,
         ⟨(some 39), none, .ld 1 false (.t 38)⟩,
         ⟨(some 40), none, .fad 1 (.t 3)⟩,
         ⟨(some 41), none, .ld 1 false (.t 40)⟩,
         ⟨(some 42), none, .mv (.t 5)⟩,
         ⟨(some 43), none, .iad 3 (.t 41) (.t 42)⟩,
         ⟨(some 44), none, .fad 1 (.t 43)⟩,
         ⟨(some 45), none, .ld 1 false (.t 44)⟩,
         ⟨(some 46), none, .callz 35 [33, 39] [(.t 33), (.t 39), (.t 45)]⟩,
         ⟨(some 32), none, .mv (.t 46)⟩,
         ⟨(some 47), none, .ext 0 (.t 32)⟩,
         ⟨(some 48), none, .ext 1 (.t 32)⟩,
         ⟨(some 6), none, .asn (.t 47)⟩,
         ⟨(some 7), none, .asn (.t 48)⟩]) (
      .seq (
       .drw none 33 [⟨(some 49), none, .mv (.t 7)⟩,
         ⟨(some 50), none, .not (.t 49)⟩,
         ⟨(some 51), none, .mv (.t 50)⟩,
         ⟨(some 52), (some (51, false)), .mv (.t 6)⟩,
         ⟨(some 53), (some (51, false)), .fad 1 (.t 3)⟩,
         ⟨(some 54), (some (51, false)), .ld 1 false (.t 53)⟩,
         ⟨(some 55), (some (51, false)), .mv (.t 5)⟩,
         ⟨(some 56), (some (51, false)), .iad 3 (.t 54) (.t 55)⟩,
         ⟨(some 57), (some (51, false)), .fad 2 (.t 56)⟩,
         ⟨(some 58), (some (51, false)), .ld 1 false (.t 57)⟩,
         ⟨(some 59), (some (51, false)), .call 83 [(.t 52), (.t 58)]⟩,
         ⟨(some 60), (some (51, false)), .not (.t 59)⟩,
         ⟨(some 61), none, .pick (.t 51) (.c (.bool true)) (.t 60)⟩,
         ⟨(some 62), none, .mv (.t 61)⟩,
         ⟨(some 63), (some (62, false)), .fad 1 (.t 3)⟩,
         ⟨(some 64), (some (62, false)), .ld 1 false (.t 63)⟩,
         ⟨(some 65), (some (62, false)), .mv (.t 5)⟩,
         ⟨(some 66), (some (62, false)), .slc 3 (.t 64) none (some (.t 65))⟩,
         ⟨(some 67), (some (62, false)), .fad 1 (.t 3)⟩,
         ⟨(some 68), (some (62, false)), .ld 1 false (.t 67)⟩,
         ⟨(some 69), (some (62, false)), .mv (.t 5)⟩,
         ⟨(some 70), (some (62, false)), .iad 3 (.t 68) (.t 69)⟩,
         ⟨(some 71), (some (62, false)), .fad 0 (.t 70)⟩,
         ⟨(some 72), (some (62, false)), .ld 1 false (.t 71)⟩,
         ⟨(some 73), (some (62, false)), .fad 1 (.t 3)⟩,
         ⟨(some 74), (some (62, false)), .ld 1 false (.t 73)⟩,
         ⟨(some 75), (some (62, false)), .mv (.t 5)⟩,
         ⟨(some 76), (some (62, false)), .iad 3 (.t 74) (.t 75)⟩,
         ⟨(some 77), (some (62, false)), .fad 1 (.t 76)⟩,
         ⟨(some 78), (some (62, false)), .ld 1 false (.t 77)⟩,
         ⟨(some 79), (some (62, false)), .call 84 [(.t 66), (.t 72), (.t 78)]⟩,
         ⟨(some 80), (some (62, false)), .bin .geq (.t 79) (.c (.int .i64 (0)))⟩,
         ⟨(some 81), none, .pick (.t 62) (.c (.bool true)) (.t 80)⟩]) (
      .cond (.t 81) (
       .seq (
        .reg none [⟨(some 4), none, .asn (.c (.bool false))⟩]) (
       .ret)) (
       .skip))))) (
    .reg none [⟨(some 30), none, .mv (.t 5)⟩,
      ⟨(some 31), none, .bin .add (.t 30) (.c (.int .i64 (1)))⟩,
      ⟨(some 5), none, .asn (.t 31)⟩])))))) (
 .seq (
  .reg none [⟨(some 4), none, .asn (.c (.bool true))⟩]) (
 .ret))))
def r_spec_StoreOk : Nat × List RV := (82, [.t 4])

theorem c_spec_StoreOk : cmpS PT PF PA (Try.prog.funcs[41]?) = some (r_spec_StoreOk.1, r_spec_StoreOk.2, stripK k_spec_StoreOk) := by kernel_rfl

theorem h_spec_StoreOk (g : TGram) (s : TStore) (hw : wGram g < 2 ^ 31) (hl : lGram g) (hs : wStore s < 2 ^ 31) : CallsF Try.prog 41 [.agg (sGram g), .agg (sStore s)] (aB (storeG g s)) := by
  refine Prun c_spec_StoreOk (by simp [r_spec_StoreOk]) (by simp) ?_
  unfold k_spec_StoreOk r_spec_StoreOk
  have hck := h_spec_Check g hw hl
  obtain ⟨cap, ls⟩ := s
  simp only [wStore] at hs
  have hln := wL_len wLine ls
  have hmv := fun i (h : i < ls.length) => h_spec_SetMove g ls[i].frm ls[i].letter hw hl (by have := wL_get wLine ls i h; simp only [wLine] at this; omega)
  have hmw := fun i (h : i < ls.length) => moveG_w g ls[i].frm ls[i].letter
  have hst : storeG g ⟨cap, ls⟩ = (decide (checkG g = 0) && (inr cap 1 16 && (decide (ls.length ≤ cap) && allG g ls ls.length 0))) := rfl
  have hal := fun i (h : i < ls.length) => allG_step (g := g) h
  have hae := fun i (h : ¬ i < ls.length) => allG_end (g := g) h
  have hlg := fun i (h : i < ls.length) => lineG_get (g := g) h
  generalize storeG g ⟨cap, ls⟩ = T at *
  obtain ⟨ps⟩ := g
  simp only [sGram] at hck hmv
  simp [sGram, sStore]
  refine callG_F hck (by simp) ?_
  by_cases c0 : checkG ⟨ps⟩ = 0
  case neg =>
    simp [c0] at hst
    simp [c0, hst]
  simp [c0]
  refine callG_F (h_spec_l1In _ _ _) (by simp) ?_
  cases c1 : inr cap 1 16 with
  | false =>
    simp [c0, c1] at hst
    simp [hst]
  | true =>
  by_cases c2 : (ls.length : Int) ≤ cap
  case neg =>
    have c2' : cap < (ls.length : Int) := by omega
    simp [c0, c1, c2] at hst
    simp [c2', hst]
  have c2' : ¬ cap < (ls.length : Int) := by omega
  simp [c0, c1, c2] at hst
  simp [c2']
  refine awp_loop (fun n σ => ∃ i : Nat, i ≤ ls.length ∧ n = ls.length - i ∧ T = allG ⟨ps⟩ ls (ls.length - i) i ∧ σ = ⟨[(2, .one (.pt 1 2 [] 0 0)), (3, .one (.pt 2 3 [] 0 0)), (5, aI i)], [(2, ⟨39, 1, [[.ar false 0 1 (ps.map sISS)]]⟩), (3, ⟨75, 2, [[cI cap, .ar false 0 3 (ls.map sLine)]]⟩)]⟩) (ls.length) ⟨0, by omega, rfl, by simpa using hst, by simp⟩ ?_
  rintro n σ ⟨i, hi, rfl, ht, rfl⟩
  by_cases h : i < ls.length
  case neg =>
    rw [hae i h] at ht
    subst ht
    simp [h]
  rw [hal i h, hlg i h] at ht
  have wi : IntKind.i64.wrap ((i : Int) + 1) = i + 1 := wrapI (by omega) (by omega)
  have hwl := wL_get wLine ls i h
  have hmv := hmv i h
  have hmw := hmw i h
  have hsB := fun b => setB_eq b (moveG ⟨ps⟩ ls[i].frm ls[i].letter)
  have htl := wL_take_le wLine ls i
  obtain ⟨l, hl⟩ : ∃ l, ls[i] = l := ⟨_, rfl⟩
  rw [hl] at ht hwl hmv hmw hsB
  obtain ⟨l1, l2, l3⟩ := l
  simp only at hmv hmw hsB ht
  simp only [wLine] at hwl
  generalize hAll : allG ⟨ps⟩ ls (ls.length - (i + 1)) (i + 1) = R at *
  have hfd := h_spec_l12Find (ls.take i) l1 l2 (by omega)
  have hneg := find_neg (p := pL l1 l2) (ls := ls.take i)
  generalize hF : findF (pL l1 l2) (ls.take i) 0 = F at *
  generalize moveG ⟨ps⟩ l1 l2 = o at *
  have hss := h_spec_l12Sets (o.getD []) l3 (by omega)
  simp [h, hl, sLine]
  refine CallsA.mono hmv ?_
  rintro r H ⟨rfl, b, rfl⟩
  refine ⟨rfl, by simp, ?_⟩
  have hn1 : (i : Int) ≤ ls.length := by omega
  cases o with
  | none =>
    simp at ht
    simp [setB, noSet, ht]
  | some S =>
    simp only [Option.getD_some, Option.some.injEq] at hss ht
    by_cases c3 : S = l3
    case neg =>
      simp [c3] at ht
      cases b <;> simp [setB, h, hl, sLine] <;> refine ⟨_, by simp, hss, ?_⟩ <;> simp [c3, ht]
    simp only [c3, decide_true, Bool.true_and] at ht hss
    have hsh : shrRows ((ls.map sLine).take i) = (ls.map sLine).take i := by rw [← List.map_take, shrs_sLine]
    rw [List.map_take] at hfd
    cases b <;> simp [setB, h, hl, sLine, c3] <;> refine ⟨_, by simp, hss, ?_⟩ <;> simp [h, hl, sLine, hn1, hi, hsh] <;> refine ⟨_, by simp, hfd, ?_⟩
    all_goals
      by_cases c4 : F = -1
      · have c4' : ¬ 0 ≤ F := by omega
        simp [c4] at ht
        simp [c4']
        exact ⟨ls.length - (i + 1), by omega, i + 1, by omega, rfl, by rw [ht, hAll], by rw [wi]; simp [sLine]⟩
      · have c4' : 0 ≤ F := hneg.2 c4
        simp [c4] at ht
        simp [c4', ht]
-- 86 loop.example/g00485/impl.storeOk
def k_impl_storeOk : K :=
 .seq (
  .reg none [⟨(some 2), none, .box 39 1 (.t 0)⟩,
    ⟨(some 3), none, .box 75 2 (.t 1)⟩,
    ⟨(some 4), none, .asn (.c (.bool false))⟩]) (
 .seq (
  .seq (
   .reg none [⟨(some 9), none, .fad 0 (.t 3)⟩,
     ⟨(some 10), none, .ld 1 false (.t 9)⟩,
     ⟨(some 11), none, .call 93 [(.t 10), (.c (.int .i64 (1))), (.c (.int .i64 (16)))]⟩,
     ⟨(some 12), none, .not (.t 11)⟩,
     ⟨(some 13), none, .mv (.t 12)⟩,
     ⟨(some 14), (some (13, false)), .fad 1 (.t 3)⟩,
     ⟨(some 15), (some (13, false)), .ld 1 false (.t 14)⟩,
     ⟨(some 16), (some (13, false)), .len (.t 15)⟩,
     ⟨(some 17), (some (13, false)), .fad 0 (.t 3)⟩,
     ⟨(some 18), (some (13, false)), .ld 1 false (.t 17)⟩,
     ⟨(some 19), (some (13, false)), .bin .gtr (.t 16) (.t 18)⟩,
     ⟨(some 20), none, .pick (.t 13) (.c (.bool true)) (.t 19)⟩]) (
  .cond (.t 20) (
   .seq (
    .reg none [⟨(some 4), none, .asn (.c (.bool false))⟩]) (
   .ret)) (
   .skip))) (
 .seq (
  .seq (
   .reg none [⟨(some 21), none, .fad 1 (.t 3)⟩,
     ⟨(some 22), none, .ld 1 false (.t 21)⟩,
     ⟨(some 23), none, .len (.t 22)⟩,
     ⟨(some 24), none, .mv (.c (.int .i64 (0)))⟩]) (
  .block 0 (
   .loop (some ([2, 3, 22, 23, 24], [2, 3, 1000])) (
    .seq (
     .reg none [⟨(some 25), none, .bin .lss (.t 24) (.t 23)⟩]) (
    .seq (
     .cond (.t 25) (
      .skip) (
      .exit 0)) (
    .seq (
     .block 1 (
      .seq (
       .reg none [⟨(some 26), none, .mv (.t 24)⟩,
         ⟨(some 27), none, .iad 3 (.t 22) (.t 24)⟩,
         ⟨(some 28), none, .ld 3 true (.t 27)⟩,
         ⟨(some 6), none, .alc 119 3 [(.ar true 96 2 []), (.int .i64 (0)), (.ar true 96 2 [])]⟩,
         ⟨(some 5), none, .asn (.t 26)⟩,
         ⟨none, none, .st 3 false (.t 6) (.t 28)⟩]) (
      .seq (
       .reg none [⟨(some 30), none, .ld 1 true (.t 2)⟩,
         ⟨(some 31), none, .fad 0 (.t 6)⟩,
         ⟨(some 32), none, .ld 1 false (.t 31)⟩,
         ⟨(some 33), none, .fad 1 (.t 6)⟩,
         ⟨(some 34), none, .ld 1 false (.t 33)⟩,
         ⟨(some 35), none, .call 75 [(.t 30), (.t 32), (.t 34)]⟩,
         ⟨(some 29), none, .mv (.t 35)⟩,
         ⟨(some 36), none, .ext 0 (.t 29)⟩,
         ⟨(some 37), none, .ext 1 (.t 29)⟩,
         ⟨(some 7), none, .asn (.t 36)⟩,
         ⟨(some 8), none, .asn (.t 37)⟩]) (
      .seq (
       .reg none [⟨(some 38), none, .mv (.t 8)⟩,
         ⟨(some 39), none, .not (.t 38)⟩,
         ⟨(some 40), none, .mv (.t 39)⟩,
         ⟨(some 41), (some (40, false)), .mv (.t 7)⟩,
         ⟨(some 42), (some (40, false)), .fad 2 (.t 6)⟩,
         ⟨(some 43), (some (40, false)), .ld 1 false (.t 42)⟩,
         ⟨(some 44), (some (40, false)), .call 135 [(.t 41), (.t 43)]⟩,
         ⟨(some 45), (some (40, false)), .not (.t 44)⟩,
         ⟨(some 46), none, .pick (.t 40) (.c (.bool true)) (.t 45)⟩,
         ⟨(some 47), none, .mv (.t 46)⟩,
         ⟨(some 48), (some (47, false)), .fad 0 (.t 6)⟩,
         ⟨(some 49), (some (47, false)), .ld 1 false (.t 48)⟩,
         ⟨(some 50), (some (47, false)), .fad 1 (.t 6)⟩,
         ⟨(some 51), (some (47, false)), .ld 1 false (.t 50)⟩,
         ⟨(some 52), (some (47, false)), .call 136 [(.t 3), (.t 49), (.t 51)]⟩,
         ⟨(some 53), (some (47, false)), .mv (.t 5)⟩,
         ⟨(some 54), (some (47, false)), .bin .neq (.t 52) (.t 53)⟩,
         ⟨(some 55), none, .pick (.t 47) (.c (.bool true)) (.t 54)⟩]) (
      .cond (.t 55) (
       .seq (
        .reg none [⟨(some 4), none, .asn (.c (.bool false))⟩]) (
       .ret)) (
       .skip)))))) (
    .reg none [⟨(some 56), none, .bin .add (.t 24) (.c (.int .i64 (1)))⟩,
      ⟨(some 24), none, .mv (.t 56)⟩]))))))) (
 .seq (
  .reg none [⟨(some 4), none, .asn (.c (.bool true))⟩]) (
 .ret))))
def r_impl_storeOk : Nat × List RV := (57, [.t 4])

theorem c_impl_storeOk : cmpS PT PF PA (Try.prog.funcs[86]?) = some (r_impl_storeOk.1, r_impl_storeOk.2, stripK k_impl_storeOk) := by kernel_rfl

theorem h_storeOk (g : TGram) (s : TStore) (hc : checkG g = 0) (hw : wGram g < 2 ^ 31) (hls : lStore s) (hs : wStore s < 2 ^ 31) : CallsF Try.prog 86 [.agg (sGram g), .agg (sStore s)] (aB (storeG g s)) := by
  refine Prun c_impl_storeOk (by simp [r_impl_storeOk]) (by simp) ?_
  unfold k_impl_storeOk r_impl_storeOk
  have hg := check_gram hc
  have hlo := fun f x => h_lineOf s f x hs
  obtain ⟨cap, ls⟩ := s
  simp only [wStore] at hs
  simp only [lStore] at hls
  have hln := wL_len wLine ls
  have hmv := fun i (h : i < ls.length) => h_setMove g ls[i].frm ls[i].letter hg hw (hls.2 i h).1 (by have := wL_get wLine ls i h; simp only [wLine] at this; omega)
  have hmw := fun i (h : i < ls.length) => moveG_w g ls[i].frm ls[i].letter
  have hmo : ∀ f x, moveG g f x = moveO g f x := fun f x => by simp [moveG, hc]
  have hst : storeG g ⟨cap, ls⟩ = (inr cap 1 16 && (decide (ls.length ≤ cap) && allG g ls ls.length 0)) := by simp [storeG, hc]
  have hal := fun i (h : i < ls.length) => allG_step (g := g) h
  have hae := fun i (h : ¬ i < ls.length) => allG_end (g := g) h
  have hlg := fun i (h : i < ls.length) => lineG_get (g := g) h
  generalize storeG g ⟨cap, ls⟩ = T at *
  obtain ⟨ps⟩ := g
  simp only [sGram] at hmv
  simp only [hmo] at hmw hlg
  simp only [sStore] at hlo
  simp [sGram, sStore]
  refine callG_F (h_impl_inRange _ _ _) (by simp) ?_
  cases c1 : inr cap 1 16 with
  | false =>
    simp [c1] at hst
    simp [hst]
  | true =>
  by_cases c2 : (ls.length : Int) ≤ cap
  case neg =>
    have c2' : cap < (ls.length : Int) := by omega
    simp [c1, c2] at hst
    simp [c2', hst]
  have c2' : ¬ cap < (ls.length : Int) := by omega
  simp [c1, c2] at hst
  simp [c2']
  refine awp_loop (fun n σ => ∃ i : Nat, i ≤ ls.length ∧ n = ls.length - i ∧ T = allG ⟨ps⟩ ls (ls.length - i) i ∧ σ = ⟨[(2, .one (.pt 1 2 [] 0 0)), (3, .one (.pt 2 3 [] 0 0)), (22, .one (.ar false 0 3 (ls.map sLine))), (23, aI ls.length), (24, aI i)], [(2, ⟨39, 1, [[.ar false 0 1 (ps.map sISS)]]⟩), (3, ⟨75, 2, [[cI cap, .ar false 0 3 (ls.map sLine)]]⟩)]⟩) (ls.length) ⟨0, by omega, rfl, by simpa using hst, by simp⟩ ?_
  rintro n σ ⟨i, hi, rfl, ht, rfl⟩
  by_cases h : i < ls.length
  case neg =>
    rw [hae i h] at ht
    subst ht
    simp [h]
  rw [hal i h, hlg i h] at ht
  have wi : IntKind.i64.wrap ((i : Int) + 1) = i + 1 := wrapI (by omega) (by omega)
  have hwl := wL_get wLine ls i h
  have hmv := hmv i h
  have hmw := hmw i h
  have hff := find_first (p := pL ls[i].frm ls[i].letter) (ls := ls) (k := i) (i := 0) (by omega) h (pL_self _)
  obtain ⟨l, hl⟩ : ∃ l, ls[i] = l := ⟨_, rfl⟩
  rw [hl] at ht hwl hmv hmw hff
  obtain ⟨l1, l2, l3⟩ := l
  simp only at hmv hmw ht hff
  simp only [wLine] at hwl
  have hlo := hlo l1 l2
  generalize hAll : allG ⟨ps⟩ ls (ls.length - (i + 1)) (i + 1) = R at *
  have hff : findF (pL l1 l2) ls 0 = 0 + (i : Int) ↔ findF (pL l1 l2) (ls.take i) 0 = -1 := hff
  have ht : T = (decide (moveO ⟨ps⟩ l1 l2 = some l3) && decide (findF (pL l1 l2) (ls.take i) 0 = -1) && R) := ht
  rw [show decide (findF (pL l1 l2) (ls.take i) 0 = -1) = decide (findF (pL l1 l2) ls 0 = (i : Int)) from decide_eq_decide.2 (by rw [← hff, Int.zero_add])] at ht
  generalize hF : findF (pL l1 l2) ls 0 = F at *
  generalize moveO ⟨ps⟩ l1 l2 = o at *
  have hss := h_impl_sameSet (o.getD []) l3 (by omega)
  simp [h, hl, sLine]
  refine callG_F hmv (fun _ => setR_noSh _) ?_
  cases o with
  | none =>
    simp at ht
    simp [setR, noSet, ht]
  | some S =>
    simp only [Option.getD_some, Option.some.injEq] at hss ht
    simp [setR]
    refine callG_F hss (by simp) ?_
    by_cases c3 : S = l3
    case neg =>
      simp [c3] at ht
      simp [c3, ht]
    simp only [c3, decide_true, Bool.true_and] at ht
    simp [c3]
    refine callG_F hlo (by simp) ?_
    by_cases c4 : F = (i : Int)
    · simp [c4] at ht
      simp [c4]
      exact ⟨ls.length - (i + 1), by omega, i + 1, by omega, rfl, by rw [ht, hAll], by rw [wi]; simp [sLine]⟩
    · simp [c4] at ht
      simp [c4, ht]
-- 43 loop.example/g00485/impl.StoreOk
def k_impl_StoreOk : K :=
 .seq (
  .reg none [⟨(some 2), none, .box 39 1 (.t 0)⟩,
    ⟨(some 3), none, .box 75 2 (.t 1)⟩,
    ⟨(some 4), none, .asn (.c (.bool false))⟩]) (
 .seq (
  .reg none [⟨(some 5), none, .ld 1 true (.t 2)⟩,
    ⟨(some 6), none, .call 58 [(.t 5)]⟩,
    ⟨(some 7), none, .mv (.t 6)⟩,
    ⟨(some 8), (some (7, true)), .ld 1 true (.t 2)⟩,
    ⟨(some 9), (some (7, true)), .ld 2 true (.t 3)⟩,
    ⟨(some 10), (some (7, true)), .call 86 [(.t 8), (.t 9)]⟩,
    ⟨(some 11), none, .pick (.t 7) (.t 10) (.c (.bool false))⟩,
    ⟨(some 4), none, .asn (.t 11)⟩]) (
 .ret))
def r_impl_StoreOk : Nat × List RV := (12, [.t 4])

theorem c_impl_StoreOk : cmpS PT PF PA (Try.prog.funcs[43]?) = some (r_impl_StoreOk.1, r_impl_StoreOk.2, stripK k_impl_StoreOk) := by kernel_rfl

theorem h_impl_StoreOk (g : TGram) (s : TStore) (hw : wGram g < 2 ^ 31) (hl : lGram g) (hls : lStore s) (hs : wStore s < 2 ^ 31) : CallsF Try.prog 43 [.agg (sGram g), .agg (sStore s)] (aB (storeG g s)) := by
  refine Prun c_impl_StoreOk (by simp [r_impl_StoreOk]) (by simp) ?_
  unfold k_impl_StoreOk r_impl_StoreOk
  have hgd := h_isGood g hw hl
  have hso := fun h => h_storeOk g s h hw hls hs
  have hst : ¬ checkG g = 0 → storeG g s = false := fun h => by simp [storeG, h]
  obtain ⟨ps⟩ := g
  obtain ⟨cap, ls⟩ := s
  simp only [sGram] at hgd hso
  simp only [sStore] at hso
  simp [sGram, sStore]
  refine callG_F hgd (by simp) ?_
  by_cases c : checkG ⟨ps⟩ = 0
  · have hso := hso c
    simp [c]
    refine callG_F hso (by simp) ?_
    simp
  · simp [c, hst c]
end Go.Am
-- IntSS_to
namespace Go.Am
open Go.Proofs
set_option maxHeartbeats 4000000
set_option maxRecDepth 100000
attribute [-simp] BitVec.toNat_or BitVec.toNat_and BitVec.toNat_ofInt
attribute [-simp] rConf_len sConf_len shr_rConf shr_sConf shrs_rConf shrs_sConf noSh_rConf mConf_wr mConf_n rLine_len sLine_len shr_rLine shr_sLine shrs_rLine shrs_sLine noSh_rLine mLine_wr mLine_n rStore_len sStore_len shr_rStore shr_sStore shrs_rStore shrs_sStore noSh_rStore mStore_wr mStore_n rISS_len sISS_len shr_rISS shr_sISS shrs_rISS shrs_sISS noSh_rISS rGram_len sGram_len shr_rGram shr_sGram shrs_rGram shrs_sGram noSh_rGram mGram_wr mGram_n cS_t cS_f row20_len row20_sc row20_view row20_store row20_aff row20_ref row20_noSh row20_shr row20_lend row20_take row20_drop rB_len setR_noSh
-- 111 loop.example/g00485/laws.toIntSS
def k_laws_toIntSS : K :=
 .seq (
  .reg none [⟨(some 2), none, .asn (.c (.ar true 34 1 []))⟩]) (
 .seq (
  .reg none [⟨(some 5), none, .mv (.t 0)⟩,
    ⟨(some 6), none, .len (.t 5)⟩,
    ⟨(some 7), none, .mks 34 1 24 [(.ar true 3 1 [])] (.t 6) (.t 6)⟩,
    ⟨(some 3), none, .asn (.t 7)⟩]) (
 .seq (
  .seq (
   .reg none [⟨(some 4), none, .asn (.c (.int .i64 (0)))⟩]) (
  .block 0 (
   .loop (some ([0, 3, 4], [0, 3, 4, 1000])) (
    .seq (
     .seq (
      .reg none [⟨(some 8), none, .mv (.t 4)⟩,
        ⟨(some 9), none, .mv (.t 0)⟩,
        ⟨(some 10), none, .len (.t 9)⟩,
        ⟨(some 11), none, .bin .lss (.t 8) (.t 10)⟩]) (
     .cond (.t 11) (
      .skip) (
      .exit 0))) (
    .seq (
     .block 1 (
      .reg none [⟨(some 14), none, .mv (.t 3)⟩,
        ⟨(some 15), none, .mv (.t 4)⟩,
        ⟨(some 16), none, .mv (.t 0)⟩,
        ⟨(some 17), none, .mv (.t 4)⟩,
        ⟨(some 18), none, .iad 1 (.t 16) (.t 17)⟩,
        ⟨(some 19), none, .ld 1 false (.t 18)⟩,
        ⟨(some 20), none, .call 18 [(.t 19)]⟩,
        ⟨(some 21), none, .iad 1 (.t 14) (.t 15)⟩,
        ⟨none, none, .st 1 false (.t 21) (.t 20)⟩])) (
    .reg none [⟨(some 12), none, .mv (.t 4)⟩,
      ⟨(some 13), none, .bin .add (.t 12) (.c (.int .i64 (1)))⟩,
      ⟨(some 4), none, .asn (.t 13)⟩])))))) (
 .seq (
  .reg none [⟨(some 22), none, .mv (.t 3)⟩,
    ⟨(some 2), none, .asn (.t 22)⟩]) (
 .ret))))
def r_laws_toIntSS : Nat × List RV := (23, [.t 2])

theorem c_laws_toIntSS : cmpS PT PF PA (Try.prog.funcs[111]?) = some (r_laws_toIntSS.1, r_laws_toIntSS.2, stripK k_laws_toIntSS) := by kernel_rfl

theorem h_toIntSS (xs : List (List Int)) (hx : wL (wL w0) xs < 2 ^ 31) : CallsF Try.prog 111 [.one (.ar false 0 1 (xs.map sIS))] (.one (.ar true 34 1 (xs.map rIS))) := by
  refine Prun c_laws_toIntSS (by simp [r_laws_toIntSS]) (by simp) ?_
  unfold k_laws_toIntSS r_laws_toIntSS
  have hlen := wL_len (wL w0) xs
  have hc : ((xs.length : Int) ≤ 4294967296) := by omega
  simp [hc]
  refine awp_loop (fun n σ => ∃ i : Nat, i ≤ xs.length ∧ n = xs.length - i ∧ σ = ⟨[(0, .one (.ar false 0 1 (xs.map sIS))), (3, .one (.vw 34 1 3 [] 0 xs.length)), (4, aI i)], [(3, ⟨34, 1, part rIS zIS xs i⟩)]⟩) (xs.length) ⟨0, by simp [part_zero, zIS]⟩ ?_
  rintro n σ ⟨i, hi, rfl, rfl⟩
  by_cases h : i < xs.length
  · have hw := wL_get (wL w0) xs i h
    have := part_set (r := rIS) (z := zIS) h
    simp [h, sIS]
    refine callG_F (h_toIntS xs[i] (by omega)) (by simp) ?_
    simp [h, part_get h, rIS, zIS]
    refine ⟨xs.length - (i + 1), by omega, i + 1, by omega, rfl, ?_⟩
    rw [wrapI (by omega) (by omega)]
    simp only [rIS, zIS] at this
    simp [rIS, zIS, this]
  · have : i = xs.length := by omega
    subst this
    simp [part_all]
end Go.Am
-- IntSSS_to
namespace Go.Am
open Go.Proofs
set_option maxHeartbeats 4000000
set_option maxRecDepth 100000
attribute [-simp] BitVec.toNat_or BitVec.toNat_and BitVec.toNat_ofInt
attribute [-simp] rConf_len sConf_len shr_rConf shr_sConf shrs_rConf shrs_sConf noSh_rConf mConf_wr mConf_n rLine_len sLine_len shr_rLine shr_sLine shrs_rLine shrs_sLine noSh_rLine mLine_wr mLine_n rStore_len sStore_len shr_rStore shr_sStore shrs_rStore shrs_sStore noSh_rStore mStore_wr mStore_n rGram_len sGram_len shr_rGram shr_sGram shrs_rGram shrs_sGram noSh_rGram mGram_wr mGram_n cS_t cS_f row20_len row20_sc row20_view row20_store row20_aff row20_ref row20_noSh row20_shr row20_lend row20_take row20_drop rB_len setR_noSh
-- 57 loop.example/g00485/laws.toIntSSS
def k_laws_toIntSSS : K :=
 .seq (
  .reg none [⟨(some 2), none, .asn (.c (.ar true 90 1 []))⟩]) (
 .seq (
  .reg none [⟨(some 5), none, .mv (.t 0)⟩,
    ⟨(some 6), none, .len (.t 5)⟩,
    ⟨(some 7), none, .mks 90 1 24 [(.ar true 34 1 [])] (.t 6) (.t 6)⟩,
    ⟨(some 3), none, .asn (.t 7)⟩]) (
 .seq (
  .seq (
   .reg none [⟨(some 4), none, .asn (.c (.int .i64 (0)))⟩]) (
  .block 0 (
   .loop (some ([0, 3, 4], [0, 3, 4, 1000])) (
    .seq (
     .seq (
      .reg none [⟨(some 8), none, .mv (.t 4)⟩,
        ⟨(some 9), none, .mv (.t 0)⟩,
        ⟨(some 10), none, .len (.t 9)⟩,
        ⟨(some 11), none, .bin .lss (.t 8) (.t 10)⟩]) (
     .cond (.t 11) (
      .skip) (
      .exit 0))) (
    .seq (
     .block 1 (
      .reg none [⟨(some 14), none, .mv (.t 3)⟩,
        ⟨(some 15), none, .mv (.t 4)⟩,
        ⟨(some 16), none, .mv (.t 0)⟩,
        ⟨(some 17), none, .mv (.t 4)⟩,
        ⟨(some 18), none, .iad 1 (.t 16) (.t 17)⟩,
        ⟨(some 19), none, .ld 1 false (.t 18)⟩,
        ⟨(some 20), none, .call 111 [(.t 19)]⟩,
        ⟨(some 21), none, .iad 1 (.t 14) (.t 15)⟩,
        ⟨none, none, .st 1 false (.t 21) (.t 20)⟩])) (
    .reg none [⟨(some 12), none, .mv (.t 4)⟩,
      ⟨(some 13), none, .bin .add (.t 12) (.c (.int .i64 (1)))⟩,
      ⟨(some 4), none, .asn (.t 13)⟩])))))) (
 .seq (
  .reg none [⟨(some 22), none, .mv (.t 3)⟩,
    ⟨(some 2), none, .asn (.t 22)⟩]) (
 .ret))))
def r_laws_toIntSSS : Nat × List RV := (23, [.t 2])

theorem c_laws_toIntSSS : cmpS PT PF PA (Try.prog.funcs[57]?) = some (r_laws_toIntSSS.1, r_laws_toIntSSS.2, stripK k_laws_toIntSSS) := by kernel_rfl

theorem h_toIntSSS (xs : List (List (List Int))) (hx : wL (wL (wL w0)) xs < 2 ^ 31) : CallsF Try.prog 57 [.one (.ar false 0 1 (xs.map sISS))] (.one (.ar true 90 1 (xs.map rISS))) := by
  refine Prun c_laws_toIntSSS (by simp [r_laws_toIntSSS]) (by simp) ?_
  unfold k_laws_toIntSSS r_laws_toIntSSS
  have hlen := wL_len (wL (wL w0)) xs
  have hc : ((xs.length : Int) ≤ 4294967296) := by omega
  simp [hc]
  refine awp_loop (fun n σ => ∃ i : Nat, i ≤ xs.length ∧ n = xs.length - i ∧ σ = ⟨[(0, .one (.ar false 0 1 (xs.map sISS))), (3, .one (.vw 90 1 3 [] 0 xs.length)), (4, aI i)], [(3, ⟨90, 1, part rISS zISS xs i⟩)]⟩) (xs.length) ⟨0, by simp [part_zero, zISS]⟩ ?_
  rintro n σ ⟨i, hi, rfl, rfl⟩
  by_cases h : i < xs.length
  · have hw := wL_get (wL (wL w0)) xs i h
    have := part_set (r := rISS) (z := zISS) h
    simp [h, sISS]
    refine callG_F (h_toIntSS xs[i] (by omega)) (by simp) ?_
    simp [h, part_get h, rISS, zISS]
    refine ⟨xs.length - (i + 1), by omega, i + 1, by omega, rfl, ?_⟩
    rw [wrapI (by omega) (by omega)]
    simp only [rISS, zISS] at this
    simp [rISS, zISS, this]
  · have : i = xs.length := by omega
    subst this
    simp [part_all]
end Go.Am
-- Gram_to1
namespace Go.Am
open Go.Proofs
set_option maxHeartbeats 4000000
set_option maxRecDepth 100000
attribute [-simp] BitVec.toNat_or BitVec.toNat_and BitVec.toNat_ofInt
attribute [-simp] rConf_len sConf_len shr_rConf shr_sConf shrs_rConf shrs_sConf noSh_rConf mConf_wr mConf_n rLine_len sLine_len shr_rLine shr_sLine shrs_rLine shrs_sLine noSh_rLine mLine_wr mLine_n rStore_len sStore_len shr_rStore shr_sStore shrs_rStore shrs_sStore noSh_rStore mStore_wr mStore_n cS_t cS_f row20_len row20_sc row20_view row20_store row20_aff row20_ref row20_noSh row20_shr row20_lend row20_take row20_drop rB_len setR_noSh
-- 17 loop.example/g00485/laws.toGram
def k_laws_toGram : K :=
 .seq (
  .reg none [⟨(some 1), none, .box 33 1 (.t 0)⟩,
    ⟨(some 2), none, .alc 39 1 [(.ar true 90 1 [])]⟩]) (
 .seq (
  .reg none [⟨(some 3), none, .alc 39 1 [(.ar true 90 1 [])]⟩]) (
 .seq (
  .reg none [⟨(some 4), none, .fad 0 (.t 1)⟩,
    ⟨(some 5), none, .ld 1 false (.t 4)⟩,
    ⟨(some 6), none, .call 57 [(.t 5)]⟩,
    ⟨(some 7), none, .fad 0 (.t 3)⟩,
    ⟨none, none, .st 1 false (.t 7) (.t 6)⟩]) (
 .seq (
  .reg none [⟨(some 8), none, .ld 1 true (.t 3)⟩,
    ⟨none, none, .st 1 false (.t 2) (.t 8)⟩]) (
 .ret))))
def r_laws_toGram : Nat × List RV := (9, [.c 2 1 true])

theorem c_laws_toGram : cmpS PT PF PA (Try.prog.funcs[17]?) = some (r_laws_toGram.1, r_laws_toGram.2, stripK k_laws_toGram) := by kernel_rfl

theorem h_toGram (a : TGram) (ha : wGram a < 2 ^ 31) : CallsF Try.prog 17 [.agg (sGram a)] (.agg (rGram a)) := by
  refine Prun c_laws_toGram (by simp [r_laws_toGram]) (by simp) ?_
  unfold k_laws_toGram r_laws_toGram
  simp only [wGram] at ha
  simp [sGram]
  refine callG_F (h_toIntSSS a.parts (by omega)) (by simp) ?_
  simp [rGram]
end Go.Am
-- intm
namespace Go.Am
open Go.Proofs
set_option maxHeartbeats 4000000
set_option maxRecDepth 100000
attribute [-simp] BitVec.toNat_or BitVec.toNat_and BitVec.toNat_ofInt
attribute [-simp] rConf_len sConf_len shr_rConf shr_sConf shrs_rConf shrs_sConf noSh_rConf mConf_wr mConf_n rLine_len sLine_len shr_rLine shr_sLine shrs_rLine shrs_sLine noSh_rLine mLine_wr mLine_n rStore_len sStore_len shr_rStore shr_sStore shrs_rStore shrs_sStore noSh_rStore mStore_wr mStore_n rIS_len sIS_len shr_rIS shr_sIS shrs_rIS shrs_sIS noSh_rIS rISS_len sISS_len shr_rISS shr_sISS shrs_rISS shrs_sISS noSh_rISS rGram_len sGram_len shr_rGram shr_sGram shrs_rGram shrs_sGram noSh_rGram mGram_wr mGram_n cS_t cS_f row20_len row20_sc row20_view row20_store row20_aff row20_ref row20_noSh row20_shr row20_lend row20_take row20_drop rB_len setR_noSh
-- 127 loop.example/g00485/laws.szIntS
def k_laws_szIntS : K :=
 .seq (
  .reg none [⟨(some 4), none, .asn (.c (.int .i64 (0)))⟩]) (
 .seq (
  .reg none [⟨(some 5), none, .mv (.t 1)⟩,
    ⟨(some 6), none, .mv (.t 0)⟩,
    ⟨(some 7), none, .len (.t 6)⟩,
    ⟨(some 8), none, .bin .sub (.t 5) (.t 7)⟩,
    ⟨(some 1), none, .asn (.t 8)⟩]) (
 .seq (
  .seq (
   .reg none [⟨(some 9), none, .mv (.t 1)⟩,
     ⟨(some 10), none, .bin .lss (.t 9) (.c (.int .i64 (0)))⟩]) (
  .cond (.t 10) (
   .seq (
    .reg none [⟨(some 4), none, .asn (.c (.int .i64 (-1)))⟩]) (
   .ret)) (
   .skip))) (
 .seq (
  .reg none [⟨(some 11), none, .mv (.t 1)⟩,
    ⟨(some 4), none, .asn (.t 11)⟩]) (
 .ret))))
def r_laws_szIntS : Nat × List RV := (12, [.t 4])

theorem c_laws_szIntS : cmpS PT PF PA (Try.prog.funcs[127]?) = some (r_laws_szIntS.1, r_laws_szIntS.2, stripK k_laws_szIntS) := by kernel_rfl

theorem h_szIntS (xs : List Int) (left : Int) (h : lL l0 xs) (h2 : 0 ≤ left) (h3 : left < 2 ^ 40) : CallsF Try.prog 127 [.one (.ar false 0 1 (xs.map rI)), aI left] (aI (lft left (wL w0 xs))) := by
  refine Prun c_laws_szIntS (by simp [r_laws_szIntS]) (by simp) ?_
  unfold k_laws_szIntS r_laws_szIntS
  have h := h.1
  rw [wL_w0, lft]
  have hw : IntKind.i64.wrap (left - xs.length) = left - xs.length := wrapI (by omega) (by omega)
  by_cases h : left - xs.length < 0
  · simp [hw, h]
  · simp [hw, h]
end Go.Am
-- IntSS_sz
namespace Go.Am
open Go.Proofs
set_option maxHeartbeats 4000000
set_option maxRecDepth 100000
attribute [-simp] BitVec.toNat_or BitVec.toNat_and BitVec.toNat_ofInt
attribute [-simp] rConf_len sConf_len shr_rConf shr_sConf shrs_rConf shrs_sConf noSh_rConf mConf_wr mConf_n rLine_len sLine_len shr_rLine shr_sLine shrs_rLine shrs_sLine noSh_rLine mLine_wr mLine_n rStore_len sStore_len shr_rStore shr_sStore shrs_rStore shrs_sStore noSh_rStore mStore_wr mStore_n rISS_len sISS_len shr_rISS shr_sISS shrs_rISS shrs_sISS noSh_rISS rGram_len sGram_len shr_rGram shr_sGram shrs_rGram shrs_sGram noSh_rGram mGram_wr mGram_n cS_t cS_f row20_len row20_sc row20_view row20_store row20_aff row20_ref row20_noSh row20_shr row20_lend row20_take row20_drop rB_len setR_noSh
-- 104 loop.example/g00485/laws.szIntSS
def k_laws_szIntSS : K :=
 .seq (
  .reg none [⟨(some 4), none, .asn (.c (.int .i64 (0)))⟩]) (
 .seq (
  .reg none [⟨(some 6), none, .mv (.t 1)⟩,
    ⟨(some 7), none, .mv (.t 0)⟩,
    ⟨(some 8), none, .len (.t 7)⟩,
    ⟨(some 9), none, .bin .sub (.t 6) (.t 8)⟩,
    ⟨(some 1), none, .asn (.t 9)⟩]) (
 .seq (
  .seq (
   .reg none [⟨(some 10), none, .mv (.t 1)⟩,
     ⟨(some 11), none, .bin .lss (.t 10) (.c (.int .i64 (0)))⟩]) (
  .cond (.t 11) (
   .seq (
    .reg none [⟨(some 4), none, .asn (.c (.int .i64 (-1)))⟩]) (
   .ret)) (
   .skip))) (
 .seq (
  .seq (
   .reg none [⟨(some 5), none, .asn (.c (.int .i64 (0)))⟩]) (
  .block 0 (
   .loop (some ([0, 1, 5], [0, 1, 5, 1000])) (
    .seq (
     .seq (
      .reg none [⟨(some 12), none, .mv (.t 5)⟩,
        ⟨(some 13), none, .mv (.t 0)⟩,
        ⟨(some 14), none, .len (.t 13)⟩,
        ⟨(some 15), none, .bin .lss (.t 12) (.t 14)⟩]) (
     .cond (.t 15) (
      .skip) (
      .exit 0))) (
    .seq (
     .block 1 (
      .seq (
       .reg none [⟨(some 18), none, .mv (.t 0)⟩,
         ⟨(some 19), none, .mv (.t 5)⟩,
         ⟨(some 20), none, .iad 1 (.t 18) (.t 19)⟩,
         ⟨(some 21), none, .ld 1 false (.t 20)⟩,
         ⟨(some 22), none, .mv (.t 1)⟩,
         ⟨(some 23), none, .call 127 [(.t 21), (.t 22)]⟩,
         ⟨(some 1), none, .asn (.t 23)⟩]) (
      .seq (
       .reg none [⟨(some 24), none, .mv (.t 1)⟩,
         ⟨(some 25), none, .bin .lss (.t 24) (.c (.int .i64 (0)))⟩]) (
      .cond (.t 25) (
       .seq (
        .reg none [⟨(some 4), none, .asn (.c (.int .i64 (-1)))⟩]) (
       .ret)) (
       .skip))))) (
    .reg none [⟨(some 16), none, .mv (.t 5)⟩,
      ⟨(some 17), none, .bin .add (.t 16) (.c (.int .i64 (1)))⟩,
      ⟨(some 5), none, .asn (.t 17)⟩])))))) (
 .seq (
  .reg none [⟨(some 26), none, .mv (.t 1)⟩,
    ⟨(some 4), none, .asn (.t 26)⟩]) (
 .ret)))))
def r_laws_szIntSS : Nat × List RV := (27, [.t 4])

theorem c_laws_szIntSS : cmpS PT PF PA (Try.prog.funcs[104]?) = some (r_laws_szIntSS.1, r_laws_szIntSS.2, stripK k_laws_szIntSS) := by kernel_rfl

theorem h_szIntSS (xs : List (List Int)) (left : Int) (hl : lL (lL l0) xs) (h2 : 0 ≤ left) (h3 : left < 2 ^ 40) : CallsF Try.prog 104 [.one (.ar false 0 1 (xs.map sIS)), aI left] (aI (lft left (wL (wL w0) xs))) := by
  refine Prun c_laws_szIntSS (by simp [r_laws_szIntSS]) (by simp) ?_
  unfold k_laws_szIntSS r_laws_szIntSS
  have hlen := hl.1
  have hlw := wL_len (wL w0) xs
  have w1 : IntKind.i64.wrap (left - xs.length) = left - xs.length := wrapI (by omega) (by omega)
  by_cases h1 : left - (xs.length : Int) < 0
  · rw [lft_neg (by omega)]
    simp [w1, h1]
  simp [w1, h1]
  refine awp_loop (fun n σ => ∃ i : Nat, i ≤ xs.length ∧ n = xs.length - i ∧ (wL (wL w0) (xs.take i) : Int) - i ≤ left - xs.length ∧ σ = ⟨[(0, .one (.ar false 0 1 (xs.map sIS))), (1, aI (left - xs.length - ((wL (wL w0) (xs.take i) : Int) - i))), (5, aI i)], []⟩) (xs.length) ⟨0, by simp [wL]; omega⟩ ?_
  rintro n σ ⟨i, hi, rfl, hle, rfl⟩
  have hge := wL_len (wL w0) (xs.take i)
  rw [List.length_take, Nat.min_eq_left hi] at hge
  by_cases h : i < xs.length
  · have hst := wL_take (wL w0) h
    have hle2 := wL_take_le (wL w0) xs (i + 1)
    have hlen2 := wL_len (wL w0) (xs.drop (i + 1))
    have happ := wL_append (wL w0) (xs.take (i + 1)) (xs.drop (i + 1))
    rw [List.take_append_drop] at happ
    rw [List.length_drop] at hlen2
    simp [h, sIS]
    refine callG_F (h_szIntS xs[i] _ (hl.2 i h) (by omega) (by omega)) (by simp) ?_
    generalize hv : left - (xs.length : Int) - ((wL (wL w0) (xs.take i) : Int) - i) = v at *
    by_cases h4 : v < ((wL w0) xs[i] : Int)
    · simp only [lft_neg h4]
      rw [lft_neg (by omega)]
      simp
    · have e : lft v ((wL w0) xs[i]) = v - (wL w0) xs[i] := lft_pos (by omega)
      have n1 : ¬ v - ((wL w0) xs[i] : Int) < 0 := by omega
      simp [e, n1]
      refine ⟨xs.length - (i + 1), by omega, i + 1, by omega, rfl, by omega, ?_⟩
      rw [wrapI (by omega) (by omega)]
      simp; omega
  · have : i = xs.length := by omega
    subst this
    rw [List.take_length] at hle
    rw [lft_pos (by omega)]
    simp
    omega
end Go.Am
-- IntSSS_sz
namespace Go.Am
open Go.Proofs
set_option maxHeartbeats 4000000
set_option maxRecDepth 100000
attribute [-simp] BitVec.toNat_or BitVec.toNat_and BitVec.toNat_ofInt
attribute [-simp] rConf_len sConf_len shr_rConf shr_sConf shrs_rConf shrs_sConf noSh_rConf mConf_wr mConf_n rLine_len sLine_len shr_rLine shr_sLine shrs_rLine shrs_sLine noSh_rLine mLine_wr mLine_n rStore_len sStore_len shr_rStore shr_sStore shrs_rStore shrs_sStore noSh_rStore mStore_wr mStore_n rGram_len sGram_len shr_rGram shr_sGram shrs_rGram shrs_sGram noSh_rGram mGram_wr mGram_n cS_t cS_f row20_len row20_sc row20_view row20_store row20_aff row20_ref row20_noSh row20_shr row20_lend row20_take row20_drop rB_len setR_noSh
-- 52 loop.example/g00485/laws.szIntSSS
def k_laws_szIntSSS : K :=
 .seq (
  .reg none [⟨(some 4), none, .asn (.c (.int .i64 (0)))⟩]) (
 .seq (
  .reg none [⟨(some 6), none, .mv (.t 1)⟩,
    ⟨(some 7), none, .mv (.t 0)⟩,
    ⟨(some 8), none, .len (.t 7)⟩,
    ⟨(some 9), none, .bin .sub (.t 6) (.t 8)⟩,
    ⟨(some 1), none, .asn (.t 9)⟩]) (
 .seq (
  .seq (
   .reg none [⟨(some 10), none, .mv (.t 1)⟩,
     ⟨(some 11), none, .bin .lss (.t 10) (.c (.int .i64 (0)))⟩]) (
  .cond (.t 11) (
   .seq (
    .reg none [⟨(some 4), none, .asn (.c (.int .i64 (-1)))⟩]) (
   .ret)) (
   .skip))) (
 .seq (
  .seq (
   .reg none [⟨(some 5), none, .asn (.c (.int .i64 (0)))⟩]) (
  .block 0 (
   .loop (some ([0, 1, 5], [0, 1, 5, 1000])) (
    .seq (
     .seq (
      .reg none [⟨(some 12), none, .mv (.t 5)⟩,
        ⟨(some 13), none, .mv (.t 0)⟩,
        ⟨(some 14), none, .len (.t 13)⟩,
        ⟨(some 15), none, .bin .lss (.t 12) (.t 14)⟩]) (
     .cond (.t 15) (
      .skip) (
      .exit 0))) (
    .seq (
     .block 1 (
      .seq (
       .reg none [⟨(some 18), none, .mv (.t 0)⟩,
         ⟨(some 19), none, .mv (.t 5)⟩,
         ⟨(some 20), none, .iad 1 (.t 18) (.t 19)⟩,
         ⟨(some 21), none, .ld 1 false (.t 20)⟩,
         ⟨(some 22), none, .mv (.t 1)⟩,
         ⟨(some 23), none, .call 104 [(.t 21), (.t 22)]⟩,
         ⟨(some 1), none, .asn (.t 23)⟩]) (
      .seq (
       .reg none [⟨(some 24), none, .mv (.t 1)⟩,
         ⟨(some 25), none, .bin .lss (.t 24) (.c (.int .i64 (0)))⟩]) (
      .cond (.t 25) (
       .seq (
        .reg none [⟨(some 4), none, .asn (.c (.int .i64 (-1)))⟩]) (
       .ret)) (
       .skip))))) (
    .reg none [⟨(some 16), none, .mv (.t 5)⟩,
      ⟨(some 17), none, .bin .add (.t 16) (.c (.int .i64 (1)))⟩,
      ⟨(some 5), none, .asn (.t 17)⟩])))))) (
 .seq (
  .reg none [⟨(some 26), none, .mv (.t 1)⟩,
    ⟨(some 4), none, .asn (.t 26)⟩]) (
 .ret)))))
def r_laws_szIntSSS : Nat × List RV := (27, [.t 4])

theorem c_laws_szIntSSS : cmpS PT PF PA (Try.prog.funcs[52]?) = some (r_laws_szIntSSS.1, r_laws_szIntSSS.2, stripK k_laws_szIntSSS) := by kernel_rfl

theorem h_szIntSSS (xs : List (List (List Int))) (left : Int) (hl : lL (lL (lL l0)) xs) (h2 : 0 ≤ left) (h3 : left < 2 ^ 40) : CallsF Try.prog 52 [.one (.ar false 0 1 (xs.map sISS)), aI left] (aI (lft left (wL (wL (wL w0)) xs))) := by
  refine Prun c_laws_szIntSSS (by simp [r_laws_szIntSSS]) (by simp) ?_
  unfold k_laws_szIntSSS r_laws_szIntSSS
  have hlen := hl.1
  have hlw := wL_len (wL (wL w0)) xs
  have w1 : IntKind.i64.wrap (left - xs.length) = left - xs.length := wrapI (by omega) (by omega)
  by_cases h1 : left - (xs.length : Int) < 0
  · rw [lft_neg (by omega)]
    simp [w1, h1]
  simp [w1, h1]
  refine awp_loop (fun n σ => ∃ i : Nat, i ≤ xs.length ∧ n = xs.length - i ∧ (wL (wL (wL w0)) (xs.take i) : Int) - i ≤ left - xs.length ∧ σ = ⟨[(0, .one (.ar false 0 1 (xs.map sISS))), (1, aI (left - xs.length - ((wL (wL (wL w0)) (xs.take i) : Int) - i))), (5, aI i)], []⟩) (xs.length) ⟨0, by simp [wL]; omega⟩ ?_
  rintro n σ ⟨i, hi, rfl, hle, rfl⟩
  have hge := wL_len (wL (wL w0)) (xs.take i)
  rw [List.length_take, Nat.min_eq_left hi] at hge
  by_cases h : i < xs.length
  · have hst := wL_take (wL (wL w0)) h
    have hle2 := wL_take_le (wL (wL w0)) xs (i + 1)
    have hlen2 := wL_len (wL (wL w0)) (xs.drop (i + 1))
    have happ := wL_append (wL (wL w0)) (xs.take (i + 1)) (xs.drop (i + 1))
    rw [List.take_append_drop] at happ
    rw [List.length_drop] at hlen2
    simp [h, sISS]
    refine callG_F (h_szIntSS xs[i] _ (hl.2 i h) (by omega) (by omega)) (by simp) ?_
    generalize hv : left - (xs.length : Int) - ((wL (wL (wL w0)) (xs.take i) : Int) - i) = v at *
    by_cases h4 : v < ((wL (wL w0)) xs[i] : Int)
    · simp only [lft_neg h4]
      rw [lft_neg (by omega)]
      simp
    · have e : lft v ((wL (wL w0)) xs[i]) = v - (wL (wL w0)) xs[i] := lft_pos (by omega)
      have n1 : ¬ v - ((wL (wL w0)) xs[i] : Int) < 0 := by omega
      simp [e, n1]
      refine ⟨xs.length - (i + 1), by omega, i + 1, by omega, rfl, by omega, ?_⟩
      rw [wrapI (by omega) (by omega)]
      simp; omega
  · have : i = xs.length := by omega
    subst this
    rw [List.take_length] at hle
    rw [lft_pos (by omega)]
    simp
    omega
end Go.Am
-- Gram_sz1
namespace Go.Am
open Go.Proofs
set_option maxHeartbeats 4000000
set_option maxRecDepth 100000
attribute [-simp] BitVec.toNat_or BitVec.toNat_and BitVec.toNat_ofInt
attribute [-simp] rConf_len sConf_len shr_rConf shr_sConf shrs_rConf shrs_sConf noSh_rConf mConf_wr mConf_n rLine_len sLine_len shr_rLine shr_sLine shrs_rLine shrs_sLine noSh_rLine mLine_wr mLine_n rStore_len sStore_len shr_rStore shr_sStore shrs_rStore shrs_sStore noSh_rStore mStore_wr mStore_n cS_t cS_f row20_len row20_sc row20_view row20_store row20_aff row20_ref row20_noSh row20_shr row20_lend row20_take row20_drop rB_len setR_noSh
-- 15 loop.example/g00485/laws.szGram
def k_laws_szGram : K :=
 .seq (
  .reg none [⟨(some 2), none, .box 33 1 (.t 0)⟩,
    ⟨(some 4), none, .asn (.c (.int .i64 (0)))⟩]) (
 .seq (
  .reg none [⟨(some 5), none, .fad 0 (.t 2)⟩,
    ⟨(some 6), none, .ld 1 false (.t 5)⟩,
    ⟨(some 7), none, .mv (.t 1)⟩,
    ⟨(some 8), none, .call 52 [(.t 6), (.t 7)]⟩,
    ⟨(some 1), none, .asn (.t 8)⟩]) (
 .seq (
  .seq (
   .reg none [⟨(some 9), none, .mv (.t 1)⟩,
     ⟨(some 10), none, .bin .lss (.t 9) (.c (.int .i64 (0)))⟩]) (
  .cond (.t 10) (
   .seq (
    .reg none [⟨(some 4), none, .asn (.c (.int .i64 (-1)))⟩]) (
   .ret)) (
   .skip))) (
 .seq (
  .reg none [⟨(some 11), none, .mv (.t 1)⟩,
    ⟨(some 4), none, .asn (.t 11)⟩]) (
 .ret))))
def r_laws_szGram : Nat × List RV := (12, [.t 4])

theorem c_laws_szGram : cmpS PT PF PA (Try.prog.funcs[15]?) = some (r_laws_szGram.1, r_laws_szGram.2, stripK k_laws_szGram) := by kernel_rfl

theorem h_szGram (a : TGram) (left : Int) (h : lGram a) (h2 : 0 ≤ left) (h3 : left < 2 ^ 40) : CallsF Try.prog 15 [.agg (sGram a), aI left] (aI (lft left (wGram a))) := by
  refine Prun c_laws_szGram (by simp [r_laws_szGram]) (by simp) ?_
  unfold k_laws_szGram r_laws_szGram
  simp only [lGram] at h
  simp only [wGram]
  have hl0 := h
  simp [sGram]
  refine callG_F (h_szIntSSS a.parts (left) hl0 (by omega) (by omega)) (by simp) ?_
  by_cases g0 : left < (wL (wL (wL w0)) a.parts : Int)
  case pos => simp only [lft_neg g0]; simp; try rw [lft_neg (by omega)]
  simp only [lft_pos (show (wL (wL (wL w0)) a.parts : Int) ≤ left by omega)]
  have n0 : ¬ left - (wL (wL (wL w0)) a.parts : Int) < 0 := by omega
  simp [n0]
  try rw [lft_pos (by omega)]
  try omega
end Go.Am
-- IntSS_eq
namespace Go.Am
open Go.Proofs
set_option maxHeartbeats 4000000
set_option maxRecDepth 100000
attribute [-simp] BitVec.toNat_or BitVec.toNat_and BitVec.toNat_ofInt
attribute [-simp] rConf_len sConf_len shr_rConf shr_sConf shrs_rConf shrs_sConf noSh_rConf mConf_wr mConf_n rLine_len sLine_len shr_rLine shr_sLine shrs_rLine shrs_sLine noSh_rLine mLine_wr mLine_n rStore_len sStore_len shr_rStore shr_sStore shrs_rStore shrs_sStore noSh_rStore mStore_wr mStore_n rISS_len sISS_len shr_rISS shr_sISS shrs_rISS shrs_sISS noSh_rISS rGram_len sGram_len shr_rGram shr_sGram shrs_rGram shrs_sGram noSh_rGram mGram_wr mGram_n cS_t cS_f row20_len row20_sc row20_view row20_store row20_aff row20_ref row20_noSh row20_shr row20_lend row20_take row20_drop rB_len setR_noSh
-- 117 loop.example/g00485/laws.eqIntSS
def k_laws_eqIntSS : K :=
 .seq (
  .reg none [⟨(some 4), none, .asn (.c (.bool false))⟩]) (
 .seq (
  .seq (
   .reg none [⟨(some 6), none, .mv (.t 0)⟩,
     ⟨(some 7), none, .len (.t 6)⟩,
     ⟨(some 8), none, .mv (.t 1)⟩,
     ⟨(some 9), none, .len (.t 8)⟩,
     ⟨(some 10), none, .bin .neq (.t 7) (.t 9)⟩]) (
  .cond (.t 10) (
   .seq (
    .reg none [⟨(some 4), none, .asn (.c (.bool false))⟩]) (
   .ret)) (
   .skip))) (
 .seq (
  .seq (
   .reg none [⟨(some 5), none, .asn (.c (.int .i64 (0)))⟩]) (
  .block 0 (
   .loop (some ([0, 1, 5], [0, 1, 5, 1000])) (
    .seq (
     .seq (
      .reg none [⟨(some 11), none, .mv (.t 5)⟩,
        ⟨(some 12), none, .mv (.t 0)⟩,
        ⟨(some 13), none, .len (.t 12)⟩,
        ⟨(some 14), none, .bin .lss (.t 11) (.t 13)⟩]) (
     .cond (.t 14) (
      .skip) (
      .exit 0))) (
    .seq (
     .block 1 (
      .seq (
       .drw none 10 [⟨(some 17), none, .mv (.t 0)⟩,
         ⟨(some 18), none, .mv (.t 5)⟩,
         ⟨(some 19), none, .iad 1 (.t 17) (.t 18)⟩,
         ⟨(some 20), none, .ld 1 false (.t 19)⟩,
         ⟨(some 21), none, .mv (.t 1)⟩,
         ⟨(some 22), none, .mv (.t 5)⟩,
         ⟨(some 23), none, .iad 1 (.t 21) (.t 22)⟩,
         ⟨(some 24), none, .ld 1 false (.t 23)⟩,
         ⟨(some 25), none, .call 22 [(.t 20), (.t 24)]⟩,
         ⟨(some 26), none, .not (.t 25)⟩]) (
      .cond (.t 26) (
       .seq (
        .reg none [⟨(some 4), none, .asn (.c (.bool false))⟩]) (
       .ret)) (
       .skip)))) (
    .reg none [⟨(some 15), none, .mv (.t 5)⟩,
      ⟨(some 16), none, .bin .add (.t 15) (.c (.int .i64 (1)))⟩,
      ⟨(some 5), none, .asn (.t 16)⟩])))))) (
 .seq (
  .reg none [⟨(some 4), none, .asn (.c (.bool true))⟩]) (
 .ret))))
def r_laws_eqIntSS : Nat × List RV := (27, [.t 4])

theorem c_laws_eqIntSS : cmpS PT PF PA (Try.prog.funcs[117]?) = some (r_laws_eqIntSS.1, r_laws_eqIntSS.2, stripK k_laws_eqIntSS) := by kernel_rfl

theorem h_eqIntSS (xs : List (List Int)) (hx : wL (wL w0) xs < 2 ^ 40) : CallsF Try.prog 117 [.one (.ar false 0 1 (xs.map sIS)), .one (.ar false 0 1 (xs.map sIS))] (aB true) := by
  refine Prun c_laws_eqIntSS (by simp [r_laws_eqIntSS]) (by simp) ?_
  unfold k_laws_eqIntSS r_laws_eqIntSS
  have hlen := wL_len (wL w0) xs
  simp
  refine awp_loop (fun n σ => ∃ i : Nat, i ≤ xs.length ∧ n = xs.length - i ∧ σ = ⟨[(0, .one (.ar false 0 1 (xs.map sIS))), (1, .one (.ar false 0 1 (xs.map sIS))), (5, aI i)], []⟩) (xs.length) ⟨0, by simp⟩ ?_
  rintro n σ ⟨i, hi, rfl, rfl⟩
  by_cases h : i < xs.length
  · have hw := wL_get (wL w0) xs i h
    simp [h, sIS]
    refine ⟨_, by simp, h_eqIntS xs[i] (by omega), ?_⟩
    simp
    refine ⟨xs.length - (i + 1), by omega, i + 1, by omega, rfl, ?_⟩
    rw [wrapI (by omega) (by omega)]
    simp
  · simp [h]
end Go.Am
-- IntSSS_eq
namespace Go.Am
open Go.Proofs
set_option maxHeartbeats 4000000
set_option maxRecDepth 100000
attribute [-simp] BitVec.toNat_or BitVec.toNat_and BitVec.toNat_ofInt
attribute [-simp] rConf_len sConf_len shr_rConf shr_sConf shrs_rConf shrs_sConf noSh_rConf mConf_wr mConf_n rLine_len sLine_len shr_rLine shr_sLine shrs_rLine shrs_sLine noSh_rLine mLine_wr mLine_n rStore_len sStore_len shr_rStore shr_sStore shrs_rStore shrs_sStore noSh_rStore mStore_wr mStore_n rGram_len sGram_len shr_rGram shr_sGram shrs_rGram shrs_sGram noSh_rGram mGram_wr mGram_n cS_t cS_f row20_len row20_sc row20_view row20_store row20_aff row20_ref row20_noSh row20_shr row20_lend row20_take row20_drop rB_len setR_noSh
-- 61 loop.example/g00485/laws.eqIntSSS
def k_laws_eqIntSSS : K :=
 .seq (
  .reg none [⟨(some 4), none, .asn (.c (.bool false))⟩]) (
 .seq (
  .seq (
   .reg none [⟨(some 6), none, .mv (.t 0)⟩,
     ⟨(some 7), none, .len (.t 6)⟩,
     ⟨(some 8), none, .mv (.t 1)⟩,
     ⟨(some 9), none, .len (.t 8)⟩,
     ⟨(some 10), none, .bin .neq (.t 7) (.t 9)⟩]) (
  .cond (.t 10) (
   .seq (
    .reg none [⟨(some 4), none, .asn (.c (.bool false))⟩]) (
   .ret)) (
   .skip))) (
 .seq (
  .seq (
   .reg none [⟨(some 5), none, .asn (.c (.int .i64 (0)))⟩]) (
  .block 0 (
   .loop (some ([0, 1, 5], [0, 1, 5, 1000])) (
    .seq (
     .seq (
      .reg none [⟨(some 11), none, .mv (.t 5)⟩,
        ⟨(some 12), none, .mv (.t 0)⟩,
        ⟨(some 13), none, .len (.t 12)⟩,
        ⟨(some 14), none, .bin .lss (.t 11) (.t 13)⟩]) (
     .cond (.t 14) (
      .skip) (
      .exit 0))) (
    .seq (
     .block 1 (
      .seq (
       .drw none 10 [⟨(some 17), none, .mv (.t 0)⟩,
         ⟨(some 18), none, .mv (.t 5)⟩,
         ⟨(some 19), none, .iad 1 (.t 17) (.t 18)⟩,
         ⟨(some 20), none, .ld 1 false (.t 19)⟩,
         ⟨(some 21), none, .mv (.t 1)⟩,
         ⟨(some 22), none, .mv (.t 5)⟩,
         ⟨(some 23), none, .iad 1 (.t 21) (.t 22)⟩,
         ⟨(some 24), none, .ld 1 false (.t 23)⟩,
         ⟨(some 25), none, .call 117 [(.t 20), (.t 24)]⟩,
         ⟨(some 26), none, .not (.t 25)⟩]) (
      .cond (.t 26) (
       .seq (
        .reg none [⟨(some 4), none, .asn (.c (.bool false))⟩]) (
       .ret)) (
       .skip)))) (
    .reg none [⟨(some 15), none, .mv (.t 5)⟩,
      ⟨(some 16), none, .bin .add (.t 15) (.c (.int .i64 (1)))⟩,
      ⟨(some 5), none, .asn (.t 16)⟩])))))) (
 .seq (
  .reg none [⟨(some 4), none, .asn (.c (.bool true))⟩]) (
 .ret))))
def r_laws_eqIntSSS : Nat × List RV := (27, [.t 4])

theorem c_laws_eqIntSSS : cmpS PT PF PA (Try.prog.funcs[61]?) = some (r_laws_eqIntSSS.1, r_laws_eqIntSSS.2, stripK k_laws_eqIntSSS) := by kernel_rfl

theorem h_eqIntSSS (xs : List (List (List Int))) (hx : wL (wL (wL w0)) xs < 2 ^ 40) : CallsF Try.prog 61 [.one (.ar false 0 1 (xs.map sISS)), .one (.ar false 0 1 (xs.map sISS))] (aB true) := by
  refine Prun c_laws_eqIntSSS (by simp [r_laws_eqIntSSS]) (by simp) ?_
  unfold k_laws_eqIntSSS r_laws_eqIntSSS
  have hlen := wL_len (wL (wL w0)) xs
  simp
  refine awp_loop (fun n σ => ∃ i : Nat, i ≤ xs.length ∧ n = xs.length - i ∧ σ = ⟨[(0, .one (.ar false 0 1 (xs.map sISS))), (1, .one (.ar false 0 1 (xs.map sISS))), (5, aI i)], []⟩) (xs.length) ⟨0, by simp⟩ ?_
  rintro n σ ⟨i, hi, rfl, rfl⟩
  by_cases h : i < xs.length
  · have hw := wL_get (wL (wL w0)) xs i h
    simp [h, sISS]
    refine ⟨_, by simp, h_eqIntSS xs[i] (by omega), ?_⟩
    simp
    refine ⟨xs.length - (i + 1), by omega, i + 1, by omega, rfl, ?_⟩
    rw [wrapI (by omega) (by omega)]
    simp
  · simp [h]
end Go.Am
-- Gram_eq1
namespace Go.Am
open Go.Proofs
set_option maxHeartbeats 4000000
set_option maxRecDepth 100000
attribute [-simp] BitVec.toNat_or BitVec.toNat_and BitVec.toNat_ofInt
attribute [-simp] rConf_len sConf_len shr_rConf shr_sConf shrs_rConf shrs_sConf noSh_rConf mConf_wr mConf_n rLine_len sLine_len shr_rLine shr_sLine shrs_rLine shrs_sLine noSh_rLine mLine_wr mLine_n rStore_len sStore_len shr_rStore shr_sStore shrs_rStore shrs_sStore noSh_rStore mStore_wr mStore_n cS_t cS_f row20_len row20_sc row20_view row20_store row20_aff row20_ref row20_noSh row20_shr row20_lend row20_take row20_drop rB_len setR_noSh
-- 21 loop.example/g00485/laws.eqGram
def k_laws_eqGram : K :=
 .seq (
  .reg none [⟨(some 2), none, .box 39 1 (.t 0)⟩,
    ⟨(some 3), none, .box 39 1 (.t 1)⟩,
    ⟨(some 4), none, .asn (.c (.bool false))⟩]) (
 .seq (
  .seq (
   .reg none [⟨(some 5), none, .fad 0 (.t 2)⟩,
     ⟨(some 6), none, .ld 1 false (.t 5)⟩,
     ⟨(some 7), none, .fad 0 (.t 3)⟩,
     ⟨(some 8), none, .ld 1 false (.t 7)⟩,
     ⟨(some 9), none, .call 61 [(.t 6), (.t 8)]⟩,
     ⟨(some 10), none, .not (.t 9)⟩]) (
  .cond (.t 10) (
   .seq (
    .reg none [⟨(some 4), none, .asn (.c (.bool false))⟩]) (
   .ret)) (
   .skip))) (
 .seq (
  .reg none [⟨(some 4), none, .asn (.c (.bool true))⟩]) (
 .ret)))
def r_laws_eqGram : Nat × List RV := (11, [.t 4])

theorem c_laws_eqGram : cmpS PT PF PA (Try.prog.funcs[21]?) = some (r_laws_eqGram.1, r_laws_eqGram.2, stripK k_laws_eqGram) := by kernel_rfl

theorem h_eqGram (a : TGram) (ha : wGram a < 2 ^ 40) : CallsF Try.prog 21 [.agg (sGram a), .agg (sGram a)] (aB true) := by
  refine Prun c_laws_eqGram (by simp [r_laws_eqGram]) (by simp) ?_
  unfold k_laws_eqGram r_laws_eqGram
  simp only [wGram] at ha
  simp [sGram]
  refine callG_F (h_eqIntSSS a.parts (by omega)) (by simp) ?_
  simp
end Go.Am
-- Conf_to1
namespace Go.Am
open Go.Proofs
set_option maxHeartbeats 4000000
set_option maxRecDepth 100000
attribute [-simp] BitVec.toNat_or BitVec.toNat_and BitVec.toNat_ofInt
attribute [-simp] rLine_len sLine_len shr_rLine shr_sLine shrs_rLine shrs_sLine noSh_rLine mLine_wr mLine_n rStore_len sStore_len shr_rStore shr_sStore shrs_rStore shrs_sStore noSh_rStore mStore_wr mStore_n rIS_len sIS_len shr_rIS shr_sIS shrs_rIS shrs_sIS noSh_rIS rISS_len sISS_len shr_rISS shr_sISS shrs_rISS shrs_sISS noSh_rISS rGram_len sGram_len shr_rGram shr_sGram shrs_rGram shrs_sGram noSh_rGram mGram_wr mGram_n cS_t cS_f row20_len row20_sc row20_view row20_store row20_aff row20_ref row20_noSh row20_shr row20_lend row20_take row20_drop rB_len setR_noSh
-- 74 loop.example/g00485/laws.toConf
def k_laws_toConf : K :=
 .seq (
  .reg none [⟨(some 1), none, .box 109 2 (.t 0)⟩,
    ⟨(some 2), none, .alc 96 2 [(.int .i64 (0)), (.ar true 3 1 [])]⟩]) (
 .seq (
  .reg none [⟨(some 3), none, .alc 96 2 [(.int .i64 (0)), (.ar true 3 1 [])]⟩]) (
 .seq (
  .reg none [⟨(some 4), none, .fad 0 (.t 1)⟩,
    ⟨(some 5), none, .ld 1 false (.t 4)⟩,
    ⟨(some 6), none, .fad 0 (.t 3)⟩,
    ⟨none, none, .st 1 false (.t 6) (.t 5)⟩]) (
 .seq (
  .reg none [⟨(some 7), none, .fad 1 (.t 1)⟩,
    ⟨(some 8), none, .ld 1 false (.t 7)⟩,
    ⟨(some 9), none, .call 18 [(.t 8)]⟩,
    ⟨(some 10), none, .fad 1 (.t 3)⟩,
    ⟨none, none, .st 1 false (.t 10) (.t 9)⟩]) (
 .seq (
  .reg none [⟨(some 11), none, .ld 2 true (.t 3)⟩,
    ⟨none, none, .st 2 false (.t 2) (.t 11)⟩]) (
 .ret)))))
def r_laws_toConf : Nat × List RV := (12, [.c 2 2 true])

theorem c_laws_toConf : cmpS PT PF PA (Try.prog.funcs[74]?) = some (r_laws_toConf.1, r_laws_toConf.2, stripK k_laws_toConf) := by kernel_rfl

theorem h_toConf (a : TConf) (ha : wConf a < 2 ^ 31) : CallsF Try.prog 74 [.agg (sConf a)] (.agg (rConf a)) := by
  refine Prun c_laws_toConf (by simp [r_laws_toConf]) (by simp) ?_
  unfold k_laws_toConf r_laws_toConf
  simp only [wConf] at ha
  simp [sConf]
  refine callG_F (h_toIntS a.row (by omega)) (by simp) ?_
  simp [rConf]
end Go.Am
-- Conf_to
namespace Go.Am
open Go.Proofs
set_option maxHeartbeats 4000000
set_option maxRecDepth 100000
attribute [-simp] BitVec.toNat_or BitVec.toNat_and BitVec.toNat_ofInt
attribute [-simp] rLine_len sLine_len shr_rLine shr_sLine shrs_rLine shrs_sLine noSh_rLine mLine_wr mLine_n rStore_len sStore_len shr_rStore shr_sStore shrs_rStore shrs_sStore noSh_rStore mStore_wr mStore_n rIS_len sIS_len shr_rIS shr_sIS shrs_rIS shrs_sIS noSh_rIS rISS_len sISS_len shr_rISS shr_sISS shrs_rISS shrs_sISS noSh_rISS rGram_len sGram_len shr_rGram shr_sGram shrs_rGram shrs_sGram noSh_rGram mGram_wr mGram_n cS_t cS_f row20_len row20_sc row20_view row20_store row20_aff row20_ref row20_noSh row20_shr row20_lend row20_take row20_drop rB_len setR_noSh
-- 36 loop.example/g00485/laws.toConfS
def k_laws_toConfS : K :=
 .seq (
  .reg none [⟨(some 2), none, .asn (.c (.ar true 96 2 []))⟩]) (
 .seq (
  .reg none [⟨(some 5), none, .mv (.t 0)⟩,
    ⟨(some 6), none, .len (.t 5)⟩,
    ⟨(some 7), none, .mks 96 2 32 [(.int .i64 (0)), (.ar true 3 1 [])] (.t 6) (.t 6)⟩,
    ⟨(some 3), none, .asn (.t 7)⟩]) (
 .seq (
  .seq (
   .reg none [⟨(some 4), none, .asn (.c (.int .i64 (0)))⟩]) (
  .block 0 (
   .loop (some ([0, 3, 4], [0, 3, 4, 1000])) (
    .seq (
     .seq (
      .reg none [⟨(some 8), none, .mv (.t 4)⟩,
        ⟨(some 9), none, .mv (.t 0)⟩,
        ⟨(some 10), none, .len (.t 9)⟩,
        ⟨(some 11), none, .bin .lss (.t 8) (.t 10)⟩]) (
     .cond (.t 11) (
      .skip) (
      .exit 0))) (
    .seq (
     .block 1 (
      .reg none [⟨(some 14), none, .mv (.t 3)⟩,
        ⟨(some 15), none, .mv (.t 4)⟩,
        ⟨(some 16), none, .mv (.t 0)⟩,
        ⟨(some 17), none, .mv (.t 4)⟩,
        ⟨(some 18), none, .iad 2 (.t 16) (.t 17)⟩,
        ⟨(some 19), none, .ld 2 true (.t 18)⟩,
        ⟨(some 20), none, .call 74 [(.t 19)]⟩,
        ⟨(some 21), none, .iad 2 (.t 14) (.t 15)⟩,
        ⟨none, none, .st 2 false (.t 21) (.t 20)⟩])) (
    .reg none [⟨(some 12), none, .mv (.t 4)⟩,
      ⟨(some 13), none, .bin .add (.t 12) (.c (.int .i64 (1)))⟩,
      ⟨(some 4), none, .asn (.t 13)⟩])))))) (
 .seq (
  .reg none [⟨(some 22), none, .mv (.t 3)⟩,
    ⟨(some 2), none, .asn (.t 22)⟩]) (
 .ret))))
def r_laws_toConfS : Nat × List RV := (23, [.t 2])

theorem c_laws_toConfS : cmpS PT PF PA (Try.prog.funcs[36]?) = some (r_laws_toConfS.1, r_laws_toConfS.2, stripK k_laws_toConfS) := by kernel_rfl

theorem h_toConfS (xs : List TConf) (hx : wL wConf xs < 2 ^ 31) : CallsF Try.prog 36 [.one (.ar false 0 2 (xs.map sConf))] (.one (.ar true 96 2 (xs.map rConf))) := by
  refine Prun c_laws_toConfS (by simp [r_laws_toConfS]) (by simp) ?_
  unfold k_laws_toConfS r_laws_toConfS
  have hlen := wL_len wConf xs
  have hc : ((xs.length : Int) ≤ 4294967296) := by omega
  simp [hc]
  refine awp_loop (fun n σ => ∃ i : Nat, i ≤ xs.length ∧ n = xs.length - i ∧ σ = ⟨[(0, .one (.ar false 0 2 (xs.map sConf))), (3, .one (.vw 96 2 3 [] 0 xs.length)), (4, aI i)], [(3, ⟨96, 2, part rConf zConf xs i⟩)]⟩) (xs.length) ⟨0, by simp [part_zero, zConf]⟩ ?_
  rintro n σ ⟨i, hi, rfl, rfl⟩
  by_cases h : i < xs.length
  · have hw := wL_get wConf xs i h
    have := part_set (r := rConf) (z := zConf) h
    simp [h, sConf]
    refine callG_F (h_toConf xs[i] (by omega)) (by simp) ?_
    simp [h, part_get h, rConf, zConf]
    refine ⟨xs.length - (i + 1), by omega, i + 1, by omega, rfl, ?_⟩
    rw [wrapI (by omega) (by omega)]
    simp only [rConf, zConf] at this
    simp [rConf, zConf, this]
  · have : i = xs.length := by omega
    subst this
    simp [part_all]
end Go.Am
-- Line_to1
namespace Go.Am
open Go.Proofs
set_option maxHeartbeats 4000000
set_option maxRecDepth 100000
attribute [-simp] BitVec.toNat_or BitVec.toNat_and BitVec.toNat_ofInt
attribute [-simp] rStore_len sStore_len shr_rStore shr_sStore shrs_rStore shrs_sStore noSh_rStore mStore_wr mStore_n rIS_len sIS_len shr_rIS shr_sIS shrs_rIS shrs_sIS noSh_rIS rISS_len sISS_len shr_rISS shr_sISS shrs_rISS shrs_sISS noSh_rISS rGram_len sGram_len shr_rGram shr_sGram shrs_rGram shrs_sGram noSh_rGram mGram_wr mGram_n cS_t cS_f row20_len row20_sc row20_view row20_store row20_aff row20_ref row20_noSh row20_shr row20_lend row20_take row20_drop rB_len setR_noSh
-- 134 loop.example/g00485/laws.toLine
def k_laws_toLine : K :=
 .seq (
  .reg none [⟨(some 1), none, .box 170 3 (.t 0)⟩,
    ⟨(some 2), none, .alc 119 3 [(.ar true 96 2 []), (.int .i64 (0)), (.ar true 96 2 [])]⟩]) (
 .seq (
  .reg none [⟨(some 3), none, .alc 119 3 [(.ar true 96 2 []), (.int .i64 (0)), (.ar true 96 2 [])]⟩]) (
 .seq (
  .reg none [⟨(some 4), none, .fad 0 (.t 1)⟩,
    ⟨(some 5), none, .ld 1 false (.t 4)⟩,
    ⟨(some 6), none, .call 36 [(.t 5)]⟩,
    ⟨(some 7), none, .fad 0 (.t 3)⟩,
    ⟨none, none, .st 1 false (.t 7) (.t 6)⟩]) (
 .seq (
  .reg none [⟨(some 8), none, .fad 1 (.t 1)⟩,
    ⟨(some 9), none, .ld 1 false (.t 8)⟩,
    ⟨(some 10), none, .fad 1 (.t 3)⟩,
    ⟨none, none, .st 1 false (.t 10) (.t 9)⟩]) (
 .seq (
  .reg none [⟨(some 11), none, .fad 2 (.t 1)⟩,
    ⟨(some 12), none, .ld 1 false (.t 11)⟩,
    ⟨(some 13), none, .call 36 [(.t 12)]⟩,
    ⟨(some 14), none, .fad 2 (.t 3)⟩,
    ⟨none, none, .st 1 false (.t 14) (.t 13)⟩]) (
 .seq (
  .reg none [⟨(some 15), none, .ld 3 true (.t 3)⟩,
    ⟨none, none, .st 3 false (.t 2) (.t 15)⟩]) (
 .ret))))))
def r_laws_toLine : Nat × List RV := (16, [.c 2 3 true])

theorem c_laws_toLine : cmpS PT PF PA (Try.prog.funcs[134]?) = some (r_laws_toLine.1, r_laws_toLine.2, stripK k_laws_toLine) := by kernel_rfl

theorem h_toLine (a : TLine) (ha : wLine a < 2 ^ 31) : CallsF Try.prog 134 [.agg (sLine a)] (.agg (rLine a)) := by
  refine Prun c_laws_toLine (by simp [r_laws_toLine]) (by simp) ?_
  unfold k_laws_toLine r_laws_toLine
  simp only [wLine] at ha
  simp [sLine]
  refine callG_F (h_toConfS a.frm (by omega)) (by simp) ?_
  simp
  refine callG_F (h_toConfS a.too (by omega)) (by simp) ?_
  simp [rLine]
end Go.Am
-- Line_to
namespace Go.Am
open Go.Proofs
set_option maxHeartbeats 4000000
set_option maxRecDepth 100000
attribute [-simp] BitVec.toNat_or BitVec.toNat_and BitVec.toNat_ofInt
attribute [-simp] rStore_len sStore_len shr_rStore shr_sStore shrs_rStore shrs_sStore noSh_rStore mStore_wr mStore_n rIS_len sIS_len shr_rIS shr_sIS shrs_rIS shrs_sIS noSh_rIS rISS_len sISS_len shr_rISS shr_sISS shrs_rISS shrs_sISS noSh_rISS rGram_len sGram_len shr_rGram shr_sGram shrs_rGram shrs_sGram noSh_rGram mGram_wr mGram_n cS_t cS_f row20_len row20_sc row20_view row20_store row20_aff row20_ref row20_noSh row20_shr row20_lend row20_take row20_drop rB_len setR_noSh
-- 85 loop.example/g00485/laws.toLineS
def k_laws_toLineS : K :=
 .seq (
  .reg none [⟨(some 2), none, .asn (.c (.ar true 119 3 []))⟩]) (
 .seq (
  .reg none [⟨(some 5), none, .mv (.t 0)⟩,
    ⟨(some 6), none, .len (.t 5)⟩,
    ⟨(some 7), none, .mks 119 3 56 [(.ar true 96 2 []), (.int .i64 (0)), (.ar true 96 2 [])] (.t 6) (.t 6)⟩,
    ⟨(some 3), none, .asn (.t 7)⟩]) (
 .seq (
  .seq (
   .reg none [⟨(some 4), none, .asn (.c (.int .i64 (0)))⟩]) (
  .block 0 (
   .loop (some ([0, 3, 4], [0, 3, 4, 1000])) (
    .seq (
     .seq (
      .reg none [⟨(some 8), none, .mv (.t 4)⟩,
        ⟨(some 9), none, .mv (.t 0)⟩,
        ⟨(some 10), none, .len (.t 9)⟩,
        ⟨(some 11), none, .bin .lss (.t 8) (.t 10)⟩]) (
     .cond (.t 11) (
      .skip) (
      .exit 0))) (
    .seq (
     .block 1 (
      .reg none [⟨(some 14), none, .mv (.t 3)⟩,
        ⟨(some 15), none, .mv (.t 4)⟩,
        ⟨(some 16), none, .mv (.t 0)⟩,
        ⟨(some 17), none, .mv (.t 4)⟩,
        ⟨(some 18), none, .iad 3 (.t 16) (.t 17)⟩,
        ⟨(some 19), none, .ld 3 true (.t 18)⟩,
        ⟨(some 20), none, .call 134 [(.t 19)]⟩,
        ⟨(some 21), none, .iad 3 (.t 14) (.t 15)⟩,
        ⟨none, none, .st 3 false (.t 21) (.t 20)⟩])) (
    .reg none [⟨(some 12), none, .mv (.t 4)⟩,
      ⟨(some 13), none, .bin .add (.t 12) (.c (.int .i64 (1)))⟩,
      ⟨(some 4), none, .asn (.t 13)⟩])))))) (
 .seq (
  .reg none [⟨(some 22), none, .mv (.t 3)⟩,
    ⟨(some 2), none, .asn (.t 22)⟩]) (
 .ret))))
def r_laws_toLineS : Nat × List RV := (23, [.t 2])

theorem c_laws_toLineS : cmpS PT PF PA (Try.prog.funcs[85]?) = some (r_laws_toLineS.1, r_laws_toLineS.2, stripK k_laws_toLineS) := by kernel_rfl

theorem h_toLineS (xs : List TLine) (hx : wL wLine xs < 2 ^ 31) : CallsF Try.prog 85 [.one (.ar false 0 3 (xs.map sLine))] (.one (.ar true 119 3 (xs.map rLine))) := by
  refine Prun c_laws_toLineS (by simp [r_laws_toLineS]) (by simp) ?_
  unfold k_laws_toLineS r_laws_toLineS
  have hlen := wL_len wLine xs
  have hc : ((xs.length : Int) ≤ 4294967296) := by omega
  simp [hc]
  refine awp_loop (fun n σ => ∃ i : Nat, i ≤ xs.length ∧ n = xs.length - i ∧ σ = ⟨[(0, .one (.ar false 0 3 (xs.map sLine))), (3, .one (.vw 119 3 3 [] 0 xs.length)), (4, aI i)], [(3, ⟨119, 3, part rLine zLine xs i⟩)]⟩) (xs.length) ⟨0, by simp [part_zero, zLine]⟩ ?_
  rintro n σ ⟨i, hi, rfl, rfl⟩
  by_cases h : i < xs.length
  · have hw := wL_get wLine xs i h
    have := part_set (r := rLine) (z := zLine) h
    simp [h, sLine]
    refine callG_F (h_toLine xs[i] (by omega)) (by simp) ?_
    simp [h, part_get h, rLine, zLine]
    refine ⟨xs.length - (i + 1), by omega, i + 1, by omega, rfl, ?_⟩
    rw [wrapI (by omega) (by omega)]
    simp only [rLine, zLine] at this
    simp [rLine, zLine, this]
  · have : i = xs.length := by omega
    subst this
    simp [part_all]
end Go.Am
-- Store_to1
namespace Go.Am
open Go.Proofs
set_option maxHeartbeats 4000000
set_option maxRecDepth 100000
attribute [-simp] BitVec.toNat_or BitVec.toNat_and BitVec.toNat_ofInt
attribute [-simp] rIS_len sIS_len shr_rIS shr_sIS shrs_rIS shrs_sIS noSh_rIS rISS_len sISS_len shr_rISS shr_sISS shrs_rISS shrs_sISS noSh_rISS rGram_len sGram_len shr_rGram shr_sGram shrs_rGram shrs_sGram noSh_rGram mGram_wr mGram_n cS_t cS_f row20_len row20_sc row20_view row20_store row20_aff row20_ref row20_noSh row20_shr row20_lend row20_take row20_drop rB_len setR_noSh
-- 42 loop.example/g00485/laws.toStore
def k_laws_toStore : K :=
 .seq (
  .reg none [⟨(some 1), none, .box 70 2 (.t 0)⟩,
    ⟨(some 2), none, .alc 75 2 [(.int .i64 (0)), (.ar true 119 3 [])]⟩]) (
 .seq (
  .reg none [⟨(some 3), none, .alc 75 2 [(.int .i64 (0)), (.ar true 119 3 [])]⟩]) (
 .seq (
  .reg none [⟨(some 4), none, .fad 0 (.t 1)⟩,
    ⟨(some 5), none, .ld 1 false (.t 4)⟩,
    ⟨(some 6), none, .fad 0 (.t 3)⟩,
    ⟨none, none, .st 1 false (.t 6) (.t 5)⟩]) (
 .seq (
  .reg none [⟨(some 7), none, .fad 1 (.t 1)⟩,
    ⟨(some 8), none, .ld 1 false (.t 7)⟩,
    ⟨(some 9), none, .call 85 [(.t 8)]⟩,
    ⟨(some 10), none, .fad 1 (.t 3)⟩,
    ⟨none, none, .st 1 false (.t 10) (.t 9)⟩]) (
 .seq (
  .reg none [⟨(some 11), none, .ld 2 true (.t 3)⟩,
    ⟨none, none, .st 2 false (.t 2) (.t 11)⟩]) (
 .ret)))))
def r_laws_toStore : Nat × List RV := (12, [.c 2 2 true])

theorem c_laws_toStore : cmpS PT PF PA (Try.prog.funcs[42]?) = some (r_laws_toStore.1, r_laws_toStore.2, stripK k_laws_toStore) := by kernel_rfl

theorem h_toStore (a : TStore) (ha : wStore a < 2 ^ 31) : CallsF Try.prog 42 [.agg (sStore a)] (.agg (rStore a)) := by
  refine Prun c_laws_toStore (by simp [r_laws_toStore]) (by simp) ?_
  unfold k_laws_toStore r_laws_toStore
  simp only [wStore] at ha
  simp [sStore]
  refine callG_F (h_toLineS a.lines (by omega)) (by simp) ?_
  simp [rStore]
end Go.Am
-- Conf_sz1
namespace Go.Am
open Go.Proofs
set_option maxHeartbeats 4000000
set_option maxRecDepth 100000
attribute [-simp] BitVec.toNat_or BitVec.toNat_and BitVec.toNat_ofInt
attribute [-simp] rLine_len sLine_len shr_rLine shr_sLine shrs_rLine shrs_sLine noSh_rLine mLine_wr mLine_n rStore_len sStore_len shr_rStore shr_sStore shrs_rStore shrs_sStore noSh_rStore mStore_wr mStore_n rIS_len sIS_len shr_rIS shr_sIS shrs_rIS shrs_sIS noSh_rIS rISS_len sISS_len shr_rISS shr_sISS shrs_rISS shrs_sISS noSh_rISS rGram_len sGram_len shr_rGram shr_sGram shrs_rGram shrs_sGram noSh_rGram mGram_wr mGram_n cS_t cS_f row20_len row20_sc row20_view row20_store row20_aff row20_ref row20_noSh row20_shr row20_lend row20_take row20_drop rB_len setR_noSh
-- 73 loop.example/g00485/laws.szConf
def k_laws_szConf : K :=
 .seq (
  .reg none [⟨(some 2), none, .box 109 2 (.t 0)⟩,
    ⟨(some 4), none, .asn (.c (.int .i64 (0)))⟩]) (
 .seq (
  .reg none [⟨(some 5), none, .fad 1 (.t 2)⟩,
    ⟨(some 6), none, .ld 1 false (.t 5)⟩,
    ⟨(some 7), none, .mv (.t 1)⟩,
    ⟨(some 8), none, .call 127 [(.t 6), (.t 7)]⟩,
    ⟨(some 1), none, .asn (.t 8)⟩]) (
 .seq (
  .seq (
   .reg none [⟨(some 9), none, .mv (.t 1)⟩,
     ⟨(some 10), none, .bin .lss (.t 9) (.c (.int .i64 (0)))⟩]) (
  .cond (.t 10) (
   .seq (
    .reg none [⟨(some 4), none, .asn (.c (.int .i64 (-1)))⟩]) (
   .ret)) (
   .skip))) (
 .seq (
  .reg none [⟨(some 11), none, .mv (.t 1)⟩,
    ⟨(some 4), none, .asn (.t 11)⟩]) (
 .ret))))
def r_laws_szConf : Nat × List RV := (12, [.t 4])

theorem c_laws_szConf : cmpS PT PF PA (Try.prog.funcs[73]?) = some (r_laws_szConf.1, r_laws_szConf.2, stripK k_laws_szConf) := by kernel_rfl

theorem h_szConf (a : TConf) (left : Int) (h : lConf a) (h2 : 0 ≤ left) (h3 : left < 2 ^ 40) : CallsF Try.prog 73 [.agg (sConf a), aI left] (aI (lft left (wConf a))) := by
  refine Prun c_laws_szConf (by simp [r_laws_szConf]) (by simp) ?_
  unfold k_laws_szConf r_laws_szConf
  simp only [lConf] at h
  simp only [wConf]
  have hl0 := h
  simp [sConf]
  refine callG_F (h_szIntS a.row (left) hl0 (by omega) (by omega)) (by simp) ?_
  by_cases g0 : left < (wL w0 a.row : Int)
  case pos => simp only [lft_neg g0]; simp; try rw [lft_neg (by omega)]
  simp only [lft_pos (show (wL w0 a.row : Int) ≤ left by omega)]
  have n0 : ¬ left - (wL w0 a.row : Int) < 0 := by omega
  simp [n0]
  try rw [lft_pos (by omega)]
  try omega
end Go.Am
-- Conf_sz
namespace Go.Am
open Go.Proofs
set_option maxHeartbeats 4000000
set_option maxRecDepth 100000
attribute [-simp] BitVec.toNat_or BitVec.toNat_and BitVec.toNat_ofInt
attribute [-simp] rLine_len sLine_len shr_rLine shr_sLine shrs_rLine shrs_sLine noSh_rLine mLine_wr mLine_n rStore_len sStore_len shr_rStore shr_sStore shrs_rStore shrs_sStore noSh_rStore mStore_wr mStore_n rIS_len sIS_len shr_rIS shr_sIS shrs_rIS shrs_sIS noSh_rIS rISS_len sISS_len shr_rISS shr_sISS shrs_rISS shrs_sISS noSh_rISS rGram_len sGram_len shr_rGram shr_sGram shrs_rGram shrs_sGram noSh_rGram mGram_wr mGram_n cS_t cS_f row20_len row20_sc row20_view row20_store row20_aff row20_ref row20_noSh row20_shr row20_lend row20_take row20_drop rB_len setR_noSh
-- 34 loop.example/g00485/laws.szConfS
def k_laws_szConfS : K :=
 .seq (
  .reg none [⟨(some 4), none, .asn (.c (.int .i64 (0)))⟩]) (
 .seq (
  .reg none [⟨(some 6), none, .mv (.t 1)⟩,
    ⟨(some 7), none, .mv (.t 0)⟩,
    ⟨(some 8), none, .len (.t 7)⟩,
    ⟨(some 9), none, .bin .sub (.t 6) (.t 8)⟩,
    ⟨(some 1), none, .asn (.t 9)⟩]) (
 .seq (
  .seq (
   .reg none [⟨(some 10), none, .mv (.t 1)⟩,
     ⟨(some 11), none, .bin .lss (.t 10) (.c (.int .i64 (0)))⟩]) (
  .cond (.t 11) (
   .seq (
    .reg none [⟨(some 4), none, .asn (.c (.int .i64 (-1)))⟩]) (
   .ret)) (
   .skip))) (
 .seq (
  .seq (
   .reg none [⟨(some 5), none, .asn (.c (.int .i64 (0)))⟩]) (
  .block 0 (
   .loop (some ([0, 1, 5], [0, 1, 5, 1000])) (
    .seq (
     .seq (
      .reg none [⟨(some 12), none, .mv (.t 5)⟩,
        ⟨(some 13), none, .mv (.t 0)⟩,
        ⟨(some 14), none, .len (.t 13)⟩,
        ⟨(some 15), none, .bin .lss (.t 12) (.t 14)⟩]) (
     .cond (.t 15) (
      .skip) (
      .exit 0))) (
    .seq (
     .block 1 (
      .seq (
       .reg none [⟨(some 18), none, .mv (.t 0)⟩,
         ⟨(some 19), none, .mv (.t 5)⟩,
         ⟨(some 20), none, .iad 2 (.t 18) (.t 19)⟩,
         ⟨(some 21), none, .ld 2 true (.t 20)⟩,
         ⟨(some 22), none, .mv (.t 1)⟩,
         ⟨(some 23), none, .call 73 [(.t 21), (.t 22)]⟩,
         ⟨(some 1), none, .asn (.t 23)⟩]) (
      .seq (
       .reg none [⟨(some 24), none, .mv (.t 1)⟩,
         ⟨(some 25), none, .bin .lss (.t 24) (.c (.int .i64 (0)))⟩]) (
      .cond (.t 25) (
       .seq (
        .reg none [⟨(some 4), none, .asn (.c (.int .i64 (-1)))⟩]) (
       .ret)) (
       .skip))))) (
    .reg none [⟨(some 16), none, .mv (.t 5)⟩,
      ⟨(some 17), none, .bin .add (.t 16) (.c (.int .i64 (1)))⟩,
      ⟨(some 5), none, .asn (.t 17)⟩])))))) (
 .seq (
  .reg none [⟨(some 26), none, .mv (.t 1)⟩,
    ⟨(some 4), none, .asn (.t 26)⟩]) (
 .ret)))))
def r_laws_szConfS : Nat × List RV := (27, [.t 4])

theorem c_laws_szConfS : cmpS PT PF PA (Try.prog.funcs[34]?) = some (r_laws_szConfS.1, r_laws_szConfS.2, stripK k_laws_szConfS) := by kernel_rfl

theorem h_szConfS (xs : List TConf) (left : Int) (hl : lL lConf xs) (h2 : 0 ≤ left) (h3 : left < 2 ^ 40) : CallsF Try.prog 34 [.one (.ar false 0 2 (xs.map sConf)), aI left] (aI (lft left (wL wConf xs))) := by
  refine Prun c_laws_szConfS (by simp [r_laws_szConfS]) (by simp) ?_
  unfold k_laws_szConfS r_laws_szConfS
  have hlen := hl.1
  have hlw := wL_len wConf xs
  have w1 : IntKind.i64.wrap (left - xs.length) = left - xs.length := wrapI (by omega) (by omega)
  by_cases h1 : left - (xs.length : Int) < 0
  · rw [lft_neg (by omega)]
    simp [w1, h1]
  simp [w1, h1]
  refine awp_loop (fun n σ => ∃ i : Nat, i ≤ xs.length ∧ n = xs.length - i ∧ (wL wConf (xs.take i) : Int) - i ≤ left - xs.length ∧ σ = ⟨[(0, .one (.ar false 0 2 (xs.map sConf))), (1, aI (left - xs.length - ((wL wConf (xs.take i) : Int) - i))), (5, aI i)], []⟩) (xs.length) ⟨0, by simp [wL]; omega⟩ ?_
  rintro n σ ⟨i, hi, rfl, hle, rfl⟩
  have hge := wL_len wConf (xs.take i)
  rw [List.length_take, Nat.min_eq_left hi] at hge
  by_cases h : i < xs.length
  · have hst := wL_take wConf h
    have hle2 := wL_take_le wConf xs (i + 1)
    have hlen2 := wL_len wConf (xs.drop (i + 1))
    have happ := wL_append wConf (xs.take (i + 1)) (xs.drop (i + 1))
    rw [List.take_append_drop] at happ
    rw [List.length_drop] at hlen2
    simp [h, sConf]
    refine callG_F (h_szConf xs[i] _ (hl.2 i h) (by omega) (by omega)) (by simp) ?_
    generalize hv : left - (xs.length : Int) - ((wL wConf (xs.take i) : Int) - i) = v at *
    by_cases h4 : v < (wConf xs[i] : Int)
    · simp only [lft_neg h4]
      rw [lft_neg (by omega)]
      simp
    · have e : lft v (wConf xs[i]) = v - wConf xs[i] := lft_pos (by omega)
      have n1 : ¬ v - (wConf xs[i] : Int) < 0 := by omega
      simp [e, n1]
      refine ⟨xs.length - (i + 1), by omega, i + 1, by omega, rfl, by omega, ?_⟩
      rw [wrapI (by omega) (by omega)]
      simp; omega
  · have : i = xs.length := by omega
    subst this
    rw [List.take_length] at hle
    rw [lft_pos (by omega)]
    simp
    omega
end Go.Am
-- Line_sz1
namespace Go.Am
open Go.Proofs
set_option maxHeartbeats 4000000
set_option maxRecDepth 100000
attribute [-simp] BitVec.toNat_or BitVec.toNat_and BitVec.toNat_ofInt
attribute [-simp] rStore_len sStore_len shr_rStore shr_sStore shrs_rStore shrs_sStore noSh_rStore mStore_wr mStore_n rIS_len sIS_len shr_rIS shr_sIS shrs_rIS shrs_sIS noSh_rIS rISS_len sISS_len shr_rISS shr_sISS shrs_rISS shrs_sISS noSh_rISS rGram_len sGram_len shr_rGram shr_sGram shrs_rGram shrs_sGram noSh_rGram mGram_wr mGram_n cS_t cS_f row20_len row20_sc row20_view row20_store row20_aff row20_ref row20_noSh row20_shr row20_lend row20_take row20_drop rB_len setR_noSh
-- 132 loop.example/g00485/laws.szLine
def k_laws_szLine : K :=
 .seq (
  .reg none [⟨(some 2), none, .box 170 3 (.t 0)⟩,
    ⟨(some 4), none, .asn (.c (.int .i64 (0)))⟩]) (
 .seq (
  .reg none [⟨(some 5), none, .fad 0 (.t 2)⟩,
    ⟨(some 6), none, .ld 1 false (.t 5)⟩,
    ⟨(some 7), none, .mv (.t 1)⟩,
    ⟨(some 8), none, .call 34 [(.t 6), (.t 7)]⟩,
    ⟨(some 1), none, .asn (.t 8)⟩]) (
 .seq (
  .seq (
   .reg none [⟨(some 9), none, .mv (.t 1)⟩,
     ⟨(some 10), none, .bin .lss (.t 9) (.c (.int .i64 (0)))⟩]) (
  .cond (.t 10) (
   .seq (
    .reg none [⟨(some 4), none, .asn (.c (.int .i64 (-1)))⟩]) (
   .ret)) (
   .skip))) (
 .seq (
  .reg none [⟨(some 11), none, .fad 2 (.t 2)⟩,
    ⟨(some 12), none, .ld 1 false (.t 11)⟩,
    ⟨(some 13), none, .mv (.t 1)⟩,
    ⟨(some 14), none, .call 34 [(.t 12), (.t 13)]⟩,
    ⟨(some 1), none, .asn (.t 14)⟩]) (
 .seq (
  .seq (
   .reg none [⟨(some 15), none, .mv (.t 1)⟩,
     ⟨(some 16), none, .bin .lss (.t 15) (.c (.int .i64 (0)))⟩]) (
  .cond (.t 16) (
   .seq (
    .reg none [⟨(some 4), none, .asn (.c (.int .i64 (-1)))⟩]) (
   .ret)) (
   .skip))) (
 .seq (
  .reg none [⟨(some 17), none, .mv (.t 1)⟩,
    ⟨(some 4), none, .asn (.t 17)⟩]) (
 .ret))))))
def r_laws_szLine : Nat × List RV := (18, [.t 4])

theorem c_laws_szLine : cmpS PT PF PA (Try.prog.funcs[132]?) = some (r_laws_szLine.1, r_laws_szLine.2, stripK k_laws_szLine) := by kernel_rfl

theorem h_szLine (a : TLine) (left : Int) (h : lLine a) (h2 : 0 ≤ left) (h3 : left < 2 ^ 40) : CallsF Try.prog 132 [.agg (sLine a), aI left] (aI (lft left (wLine a))) := by
  refine Prun c_laws_szLine (by simp [r_laws_szLine]) (by simp) ?_
  unfold k_laws_szLine r_laws_szLine
  simp only [lLine] at h
  simp only [wLine]
  obtain ⟨hl0, hl1⟩ := h
  simp [sLine]
  refine callG_F (h_szConfS a.frm (left) hl0 (by omega) (by omega)) (by simp) ?_
  by_cases g0 : left < (wL wConf a.frm : Int)
  case pos => simp only [lft_neg g0]; simp; try rw [lft_neg (by omega)]
  simp only [lft_pos (show (wL wConf a.frm : Int) ≤ left by omega)]
  have n0 : ¬ left - (wL wConf a.frm : Int) < 0 := by omega
  simp [n0]
  refine callG_F (h_szConfS a.too (left - (wL wConf a.frm : Int)) hl1 (by omega) (by omega)) (by simp) ?_
  by_cases g1 : left - (wL wConf a.frm : Int) < (wL wConf a.too : Int)
  case pos => simp only [lft_neg g1]; simp; try rw [lft_neg (by omega)]
  simp only [lft_pos (show (wL wConf a.too : Int) ≤ left - (wL wConf a.frm : Int) by omega)]
  have n1 : ¬ left - (wL wConf a.frm : Int) - (wL wConf a.too : Int) < 0 := by omega
  simp [n1]
  try rw [lft_pos (by omega)]
  try omega
end Go.Am
-- Line_sz
namespace Go.Am
open Go.Proofs
set_option maxHeartbeats 4000000
set_option maxRecDepth 100000
attribute [-simp] BitVec.toNat_or BitVec.toNat_and BitVec.toNat_ofInt
attribute [-simp] rStore_len sStore_len shr_rStore shr_sStore shrs_rStore shrs_sStore noSh_rStore mStore_wr mStore_n rIS_len sIS_len shr_rIS shr_sIS shrs_rIS shrs_sIS noSh_rIS rISS_len sISS_len shr_rISS shr_sISS shrs_rISS shrs_sISS noSh_rISS rGram_len sGram_len shr_rGram shr_sGram shrs_rGram shrs_sGram noSh_rGram mGram_wr mGram_n cS_t cS_f row20_len row20_sc row20_view row20_store row20_aff row20_ref row20_noSh row20_shr row20_lend row20_take row20_drop rB_len setR_noSh
-- 82 loop.example/g00485/laws.szLineS
def k_laws_szLineS : K :=
 .seq (
  .reg none [⟨(some 4), none, .asn (.c (.int .i64 (0)))⟩]) (
 .seq (
  .reg none [⟨(some 6), none, .mv (.t 1)⟩,
    ⟨(some 7), none, .mv (.t 0)⟩,
    ⟨(some 8), none, .len (.t 7)⟩,
    ⟨(some 9), none, .bin .sub (.t 6) (.t 8)⟩,
    ⟨(some 1), none, .asn (.t 9)⟩]) (
 .seq (
  .seq (
   .reg none [⟨(some 10), none, .mv (.t 1)⟩,
     ⟨(some 11), none, .bin .lss (.t 10) (.c (.int .i64 (0)))⟩]) (
  .cond (.t 11) (
   .seq (
    .reg none [⟨(some 4), none, .asn (.c (.int .i64 (-1)))⟩]) (
   .ret)) (
   .skip))) (
 .seq (
  .seq (
   .reg none [⟨(some 5), none, .asn (.c (.int .i64 (0)))⟩]) (
  .block 0 (
   .loop (some ([0, 1, 5], [0, 1, 5, 1000])) (
    .seq (
     .seq (
      .reg none [⟨(some 12), none, .mv (.t 5)⟩,
        ⟨(some 13), none, .mv (.t 0)⟩,
        ⟨(some 14), none, .len (.t 13)⟩,
        ⟨(some 15), none, .bin .lss (.t 12) (.t 14)⟩]) (
     .cond (.t 15) (
      .skip) (
      .exit 0))) (
    .seq (
     .block 1 (
      .seq (
       .reg none [⟨(some 18), none, .mv (.t 0)⟩,
         ⟨(some 19), none, .mv (.t 5)⟩,
         ⟨(some 20), none, .iad 3 (.t 18) (.t 19)⟩,
         ⟨(some 21), none, .ld 3 true (.t 20)⟩,
         ⟨(some 22), none, .mv (.t 1)⟩,
         ⟨(some 23), none, .call 132 [(.t 21), (.t 22)]⟩,
         ⟨(some 1), none, .asn (.t 23)⟩]) (
      .seq (
       .reg none [⟨(some 24), none, .mv (.t 1)⟩,
         ⟨(some 25), none, .bin .lss (.t 24) (.c (.int .i64 (0)))⟩]) (
      .cond (.t 25) (
       .seq (
        .reg none [⟨(some 4), none, .asn (.c (.int .i64 (-1)))⟩]) (
       .ret)) (
       .skip))))) (
    .reg none [⟨(some 16), none, .mv (.t 5)⟩,
      ⟨(some 17), none, .bin .add (.t 16) (.c (.int .i64 (1)))⟩,
      ⟨(some 5), none, .asn (.t 17)⟩])))))) (
 .seq (
  .reg none [⟨(some 26), none, .mv (.t 1)⟩,
    ⟨(some 4), none, .asn (.t 26)⟩]) (
 .ret)))))
def r_laws_szLineS : Nat × List RV := (27, [.t 4])

theorem c_laws_szLineS : cmpS PT PF PA (Try.prog.funcs[82]?) = some (r_laws_szLineS.1, r_laws_szLineS.2, stripK k_laws_szLineS) := by kernel_rfl

theorem h_szLineS (xs : List TLine) (left : Int) (hl : lL lLine xs) (h2 : 0 ≤ left) (h3 : left < 2 ^ 40) : CallsF Try.prog 82 [.one (.ar false 0 3 (xs.map sLine)), aI left] (aI (lft left (wL wLine xs))) := by
  refine Prun c_laws_szLineS (by simp [r_laws_szLineS]) (by simp) ?_
  unfold k_laws_szLineS r_laws_szLineS
  have hlen := hl.1
  have hlw := wL_len wLine xs
  have w1 : IntKind.i64.wrap (left - xs.length) = left - xs.length := wrapI (by omega) (by omega)
  by_cases h1 : left - (xs.length : Int) < 0
  · rw [lft_neg (by omega)]
    simp [w1, h1]
  simp [w1, h1]
  refine awp_loop (fun n σ => ∃ i : Nat, i ≤ xs.length ∧ n = xs.length - i ∧ (wL wLine (xs.take i) : Int) - i ≤ left - xs.length ∧ σ = ⟨[(0, .one (.ar false 0 3 (xs.map sLine))), (1, aI (left - xs.length - ((wL wLine (xs.take i) : Int) - i))), (5, aI i)], []⟩) (xs.length) ⟨0, by simp [wL]; omega⟩ ?_
  rintro n σ ⟨i, hi, rfl, hle, rfl⟩
  have hge := wL_len wLine (xs.take i)
  rw [List.length_take, Nat.min_eq_left hi] at hge
  by_cases h : i < xs.length
  · have hst := wL_take wLine h
    have hle2 := wL_take_le wLine xs (i + 1)
    have hlen2 := wL_len wLine (xs.drop (i + 1))
    have happ := wL_append wLine (xs.take (i + 1)) (xs.drop (i + 1))
    rw [List.take_append_drop] at happ
    rw [List.length_drop] at hlen2
    simp [h, sLine]
    refine callG_F (h_szLine xs[i] _ (hl.2 i h) (by omega) (by omega)) (by simp) ?_
    generalize hv : left - (xs.length : Int) - ((wL wLine (xs.take i) : Int) - i) = v at *
    by_cases h4 : v < (wLine xs[i] : Int)
    · simp only [lft_neg h4]
      rw [lft_neg (by omega)]
      simp
    · have e : lft v (wLine xs[i]) = v - wLine xs[i] := lft_pos (by omega)
      have n1 : ¬ v - (wLine xs[i] : Int) < 0 := by omega
      simp [e, n1]
      refine ⟨xs.length - (i + 1), by omega, i + 1, by omega, rfl, by omega, ?_⟩
      rw [wrapI (by omega) (by omega)]
      simp; omega
  · have : i = xs.length := by omega
    subst this
    rw [List.take_length] at hle
    rw [lft_pos (by omega)]
    simp
    omega
end Go.Am
-- Store_sz1
namespace Go.Am
open Go.Proofs
set_option maxHeartbeats 4000000
set_option maxRecDepth 100000
attribute [-simp] BitVec.toNat_or BitVec.toNat_and BitVec.toNat_ofInt
attribute [-simp] rIS_len sIS_len shr_rIS shr_sIS shrs_rIS shrs_sIS noSh_rIS rISS_len sISS_len shr_rISS shr_sISS shrs_rISS shrs_sISS noSh_rISS rGram_len sGram_len shr_rGram shr_sGram shrs_rGram shrs_sGram noSh_rGram mGram_wr mGram_n cS_t cS_f row20_len row20_sc row20_view row20_store row20_aff row20_ref row20_noSh row20_shr row20_lend row20_take row20_drop rB_len setR_noSh
-- 40 loop.example/g00485/laws.szStore
def k_laws_szStore : K :=
 .seq (
  .reg none [⟨(some 2), none, .box 70 2 (.t 0)⟩,
    ⟨(some 4), none, .asn (.c (.int .i64 (0)))⟩]) (
 .seq (
  .reg none [⟨(some 5), none, .fad 1 (.t 2)⟩,
    ⟨(some 6), none, .ld 1 false (.t 5)⟩,
    ⟨(some 7), none, .mv (.t 1)⟩,
    ⟨(some 8), none, .call 82 [(.t 6), (.t 7)]⟩,
    ⟨(some 1), none, .asn (.t 8)⟩]) (
 .seq (
  .seq (
   .reg none [⟨(some 9), none, .mv (.t 1)⟩,
     ⟨(some 10), none, .bin .lss (.t 9) (.c (.int .i64 (0)))⟩]) (
  .cond (.t 10) (
   .seq (
    .reg none [⟨(some 4), none, .asn (.c (.int .i64 (-1)))⟩]) (
   .ret)) (
   .skip))) (
 .seq (
  .reg none [⟨(some 11), none, .mv (.t 1)⟩,
    ⟨(some 4), none, .asn (.t 11)⟩]) (
 .ret))))
def r_laws_szStore : Nat × List RV := (12, [.t 4])

theorem c_laws_szStore : cmpS PT PF PA (Try.prog.funcs[40]?) = some (r_laws_szStore.1, r_laws_szStore.2, stripK k_laws_szStore) := by kernel_rfl

theorem h_szStore (a : TStore) (left : Int) (h : lStore a) (h2 : 0 ≤ left) (h3 : left < 2 ^ 40) : CallsF Try.prog 40 [.agg (sStore a), aI left] (aI (lft left (wStore a))) := by
  refine Prun c_laws_szStore (by simp [r_laws_szStore]) (by simp) ?_
  unfold k_laws_szStore r_laws_szStore
  simp only [lStore] at h
  simp only [wStore]
  have hl0 := h
  simp [sStore]
  refine callG_F (h_szLineS a.lines (left) hl0 (by omega) (by omega)) (by simp) ?_
  by_cases g0 : left < (wL wLine a.lines : Int)
  case pos => simp only [lft_neg g0]; simp; try rw [lft_neg (by omega)]
  simp only [lft_pos (show (wL wLine a.lines : Int) ≤ left by omega)]
  have n0 : ¬ left - (wL wLine a.lines : Int) < 0 := by omega
  simp [n0]
  try rw [lft_pos (by omega)]
  try omega
end Go.Am
-- Conf_eq1
namespace Go.Am
open Go.Proofs
set_option maxHeartbeats 4000000
set_option maxRecDepth 100000
attribute [-simp] BitVec.toNat_or BitVec.toNat_and BitVec.toNat_ofInt
attribute [-simp] rLine_len sLine_len shr_rLine shr_sLine shrs_rLine shrs_sLine noSh_rLine mLine_wr mLine_n rStore_len sStore_len shr_rStore shr_sStore shrs_rStore shrs_sStore noSh_rStore mStore_wr mStore_n rIS_len sIS_len shr_rIS shr_sIS shrs_rIS shrs_sIS noSh_rIS rISS_len sISS_len shr_rISS shr_sISS shrs_rISS shrs_sISS noSh_rISS rGram_len sGram_len shr_rGram shr_sGram shrs_rGram shrs_sGram noSh_rGram mGram_wr mGram_n cS_t cS_f row20_len row20_sc row20_view row20_store row20_aff row20_ref row20_noSh row20_shr row20_lend row20_take row20_drop rB_len setR_noSh
-- 60 loop.example/g00485/laws.eqConf
def k_laws_eqConf : K :=
 .seq (
  .reg none [⟨(some 2), none, .box 96 2 (.t 0)⟩,
    ⟨(some 3), none, .box 96 2 (.t 1)⟩,
    ⟨(some 4), none, .asn (.c (.bool false))⟩]) (
 .seq (
  .seq (
   .reg none [⟨(some 5), none, .fad 0 (.t 2)⟩,
     ⟨(some 6), none, .ld 1 false (.t 5)⟩,
     ⟨(some 7), none, .fad 0 (.t 3)⟩,
     ⟨(some 8), none, .ld 1 false (.t 7)⟩,
     ⟨(some 9), none, .bin .neq (.t 6) (.t 8)⟩]) (
  .cond (.t 9) (
   .seq (
    .reg none [⟨(some 4), none, .asn (.c (.bool false))⟩]) (
   .ret)) (
   .skip))) (
 .seq (
  .seq (
   .reg none [⟨(some 10), none, .fad 1 (.t 2)⟩,
     ⟨(some 11), none, .ld 1 false (.t 10)⟩,
     ⟨(some 12), none, .fad 1 (.t 3)⟩,
     ⟨(some 13), none, .ld 1 false (.t 12)⟩,
     ⟨(some 14), none, .call 22 [(.t 11), (.t 13)]⟩,
     ⟨(some 15), none, .not (.t 14)⟩]) (
  .cond (.t 15) (
   .seq (
    .reg none [⟨(some 4), none, .asn (.c (.bool false))⟩]) (
   .ret)) (
   .skip))) (
 .seq (
  .reg none [⟨(some 4), none, .asn (.c (.bool true))⟩]) (
 .ret))))
def r_laws_eqConf : Nat × List RV := (16, [.t 4])

theorem c_laws_eqConf : cmpS PT PF PA (Try.prog.funcs[60]?) = some (r_laws_eqConf.1, r_laws_eqConf.2, stripK k_laws_eqConf) := by kernel_rfl

theorem h_eqConf (a : TConf) (ha : wConf a < 2 ^ 40) : CallsF Try.prog 60 [.agg (sConf a), .agg (sConf a)] (aB true) := by
  refine Prun c_laws_eqConf (by simp [r_laws_eqConf]) (by simp) ?_
  unfold k_laws_eqConf r_laws_eqConf
  simp only [wConf] at ha
  simp [sConf]
  refine callG_F (h_eqIntS a.row (by omega)) (by simp) ?_
  simp
end Go.Am
-- Conf_eq
namespace Go.Am
open Go.Proofs
set_option maxHeartbeats 4000000
set_option maxRecDepth 100000
attribute [-simp] BitVec.toNat_or BitVec.toNat_and BitVec.toNat_ofInt
attribute [-simp] rLine_len sLine_len shr_rLine shr_sLine shrs_rLine shrs_sLine noSh_rLine mLine_wr mLine_n rStore_len sStore_len shr_rStore shr_sStore shrs_rStore shrs_sStore noSh_rStore mStore_wr mStore_n rIS_len sIS_len shr_rIS shr_sIS shrs_rIS shrs_sIS noSh_rIS rISS_len sISS_len shr_rISS shr_sISS shrs_rISS shrs_sISS noSh_rISS rGram_len sGram_len shr_rGram shr_sGram shrs_rGram shrs_sGram noSh_rGram mGram_wr mGram_n cS_t cS_f row20_len row20_sc row20_view row20_store row20_aff row20_ref row20_noSh row20_shr row20_lend row20_take row20_drop rB_len setR_noSh
-- 20 loop.example/g00485/laws.eqConfS
def k_laws_eqConfS : K :=
 .seq (
  .reg none [⟨(some 4), none, .asn (.c (.bool false))⟩]) (
 .seq (
  .seq (
   .reg none [⟨(some 6), none, .mv (.t 0)⟩,
     ⟨(some 7), none, .len (.t 6)⟩,
     ⟨(some 8), none, .mv (.t 1)⟩,
     ⟨(some 9), none, .len (.t 8)⟩,
     ⟨(some 10), none, .bin .neq (.t 7) (.t 9)⟩]) (
  .cond (.t 10) (
   .seq (
    .reg none [⟨(some 4), none, .asn (.c (.bool false))⟩]) (
   .ret)) (
   .skip))) (
 .seq (
  .seq (
   .reg none [⟨(some 5), none, .asn (.c (.int .i64 (0)))⟩]) (
  .block 0 (
   .loop (some ([0, 1, 5], [0, 1, 5, 1000])) (
    .seq (
     .seq (
      .reg none [⟨(some 11), none, .mv (.t 5)⟩,
        ⟨(some 12), none, .mv (.t 0)⟩,
        ⟨(some 13), none, .len (.t 12)⟩,
        ⟨(some 14), none, .bin .lss (.t 11) (.t 13)⟩]) (
     .cond (.t 14) (
      .skip) (
      .exit 0))) (
    .seq (
     .block 1 (
      .seq (
       .drw none 10 [⟨(some 17), none, .mv (.t 0)⟩,
         ⟨(some 18), none, .mv (.t 5)⟩,
         ⟨(some 19), none, .iad 2 (.t 17) (.t 18)⟩,
         ⟨(some 20), none, .ld 2 true (.t 19)⟩,
         ⟨(some 21), none, .mv (.t 1)⟩,
         ⟨(some 22), none, .mv (.t 5)⟩,
         ⟨(some 23), none, .iad 2 (.t 21) (.t 22)⟩,
         ⟨(some 24), none, .ld 2 true (.t 23)⟩,
         ⟨(some 25), none, .call 60 [(.t 20), (.t 24)]⟩,
         ⟨(some 26), none, .not (.t 25)⟩]) (
      .cond (.t 26) (
       .seq (
        .reg none [⟨(some 4), none, .asn (.c (.bool false))⟩]) (
       .ret)) (
       .skip)))) (
    .reg none [⟨(some 15), none, .mv (.t 5)⟩,
      ⟨(some 16), none, .bin .add (.t 15) (.c (.int .i64 (1)))⟩,
      ⟨(some 5), none, .asn (.t 16)⟩])))))) (
 .seq (
  .reg none [⟨(some 4), none, .asn (.c (.bool true))⟩]) (
 .ret))))
def r_laws_eqConfS : Nat × List RV := (27, [.t 4])

theorem c_laws_eqConfS : cmpS PT PF PA (Try.prog.funcs[20]?) = some (r_laws_eqConfS.1, r_laws_eqConfS.2, stripK k_laws_eqConfS) := by kernel_rfl

theorem h_eqConfS (xs : List TConf) (hx : wL wConf xs < 2 ^ 40) : CallsF Try.prog 20 [.one (.ar false 0 2 (xs.map sConf)), .one (.ar false 0 2 (xs.map sConf))] (aB true) := by
  refine Prun c_laws_eqConfS (by simp [r_laws_eqConfS]) (by simp) ?_
  unfold k_laws_eqConfS r_laws_eqConfS
  have hlen := wL_len wConf xs
  simp
  refine awp_loop (fun n σ => ∃ i : Nat, i ≤ xs.length ∧ n = xs.length - i ∧ σ = ⟨[(0, .one (.ar false 0 2 (xs.map sConf))), (1, .one (.ar false 0 2 (xs.map sConf))), (5, aI i)], []⟩) (xs.length) ⟨0, by simp⟩ ?_
  rintro n σ ⟨i, hi, rfl, rfl⟩
  by_cases h : i < xs.length
  · have hw := wL_get wConf xs i h
    simp [h, sConf]
    refine ⟨_, by simp, h_eqConf xs[i] (by omega), ?_⟩
    simp
    refine ⟨xs.length - (i + 1), by omega, i + 1, by omega, rfl, ?_⟩
    rw [wrapI (by omega) (by omega)]
    simp
  · simp [h]
end Go.Am
-- Line_eq1
namespace Go.Am
open Go.Proofs
set_option maxHeartbeats 4000000
set_option maxRecDepth 100000
attribute [-simp] BitVec.toNat_or BitVec.toNat_and BitVec.toNat_ofInt
attribute [-simp] rStore_len sStore_len shr_rStore shr_sStore shrs_rStore shrs_sStore noSh_rStore mStore_wr mStore_n rIS_len sIS_len shr_rIS shr_sIS shrs_rIS shrs_sIS noSh_rIS rISS_len sISS_len shr_rISS shr_sISS shrs_rISS shrs_sISS noSh_rISS rGram_len sGram_len shr_rGram shr_sGram shrs_rGram shrs_sGram noSh_rGram mGram_wr mGram_n cS_t cS_f row20_len row20_sc row20_view row20_store row20_aff row20_ref row20_noSh row20_shr row20_lend row20_take row20_drop rB_len setR_noSh
-- 137 loop.example/g00485/laws.eqLine
def k_laws_eqLine : K :=
 .seq (
  .reg none [⟨(some 2), none, .box 119 3 (.t 0)⟩,
    ⟨(some 3), none, .box 119 3 (.t 1)⟩,
    ⟨(some 4), none, .asn (.c (.bool false))⟩]) (
 .seq (
  .seq (
   .reg none [⟨(some 5), none, .fad 0 (.t 2)⟩,
     ⟨(some 6), none, .ld 1 false (.t 5)⟩,
     ⟨(some 7), none, .fad 0 (.t 3)⟩,
     ⟨(some 8), none, .ld 1 false (.t 7)⟩,
     ⟨(some 9), none, .call 20 [(.t 6), (.t 8)]⟩,
     ⟨(some 10), none, .not (.t 9)⟩]) (
  .cond (.t 10) (
   .seq (
    .reg none [⟨(some 4), none, .asn (.c (.bool false))⟩]) (
   .ret)) (
   .skip))) (
 .seq (
  .seq (
   .reg none [⟨(some 11), none, .fad 1 (.t 2)⟩,
     ⟨(some 12), none, .ld 1 false (.t 11)⟩,
     ⟨(some 13), none, .fad 1 (.t 3)⟩,
     ⟨(some 14), none, .ld 1 false (.t 13)⟩,
     ⟨(some 15), none, .bin .neq (.t 12) (.t 14)⟩]) (
  .cond (.t 15) (
   .seq (
    .reg none [⟨(some 4), none, .asn (.c (.bool false))⟩]) (
   .ret)) (
   .skip))) (
 .seq (
  .seq (
   .reg none [⟨(some 16), none, .fad 2 (.t 2)⟩,
     ⟨(some 17), none, .ld 1 false (.t 16)⟩,
     ⟨(some 18), none, .fad 2 (.t 3)⟩,
     ⟨(some 19), none, .ld 1 false (.t 18)⟩,
     ⟨(some 20), none, .call 20 [(.t 17), (.t 19)]⟩,
     ⟨(some 21), none, .not (.t 20)⟩]) (
  .cond (.t 21) (
   .seq (
    .reg none [⟨(some 4), none, .asn (.c (.bool false))⟩]) (
   .ret)) (
   .skip))) (
 .seq (
  .reg none [⟨(some 4), none, .asn (.c (.bool true))⟩]) (
 .ret)))))
def r_laws_eqLine : Nat × List RV := (22, [.t 4])

theorem c_laws_eqLine : cmpS PT PF PA (Try.prog.funcs[137]?) = some (r_laws_eqLine.1, r_laws_eqLine.2, stripK k_laws_eqLine) := by kernel_rfl

theorem h_eqLine (a : TLine) (ha : wLine a < 2 ^ 40) : CallsF Try.prog 137 [.agg (sLine a), .agg (sLine a)] (aB true) := by
  refine Prun c_laws_eqLine (by simp [r_laws_eqLine]) (by simp) ?_
  unfold k_laws_eqLine r_laws_eqLine
  simp only [wLine] at ha
  simp [sLine]
  refine callG_F (h_eqConfS a.frm (by omega)) (by simp) ?_
  simp
  refine callG_F (h_eqConfS a.too (by omega)) (by simp) ?_
  simp
end Go.Am
-- Line_eq
namespace Go.Am
open Go.Proofs
set_option maxHeartbeats 4000000
set_option maxRecDepth 100000
attribute [-simp] BitVec.toNat_or BitVec.toNat_and BitVec.toNat_ofInt
attribute [-simp] rStore_len sStore_len shr_rStore shr_sStore shrs_rStore shrs_sStore noSh_rStore mStore_wr mStore_n rIS_len sIS_len shr_rIS shr_sIS shrs_rIS shrs_sIS noSh_rIS rISS_len sISS_len shr_rISS shr_sISS shrs_rISS shrs_sISS noSh_rISS rGram_len sGram_len shr_rGram shr_sGram shrs_rGram shrs_sGram noSh_rGram mGram_wr mGram_n cS_t cS_f row20_len row20_sc row20_view row20_store row20_aff row20_ref row20_noSh row20_shr row20_lend row20_take row20_drop rB_len setR_noSh
-- 87 loop.example/g00485/laws.eqLineS
def k_laws_eqLineS : K :=
 .seq (
  .reg none [⟨(some 4), none, .asn (.c (.bool false))⟩]) (
 .seq (
  .seq (
   .reg none [⟨(some 6), none, .mv (.t 0)⟩,
     ⟨(some 7), none, .len (.t 6)⟩,
     ⟨(some 8), none, .mv (.t 1)⟩,
     ⟨(some 9), none, .len (.t 8)⟩,
     ⟨(some 10), none, .bin .neq (.t 7) (.t 9)⟩]) (
  .cond (.t 10) (
   .seq (
    .reg none [⟨(some 4), none, .asn (.c (.bool false))⟩]) (
   .ret)) (
   .skip))) (
 .seq (
  .seq (
   .reg none [⟨(some 5), none, .asn (.c (.int .i64 (0)))⟩]) (
  .block 0 (
   .loop (some ([0, 1, 5], [0, 1, 5, 1000])) (
    .seq (
     .seq (
      .reg none [⟨(some 11), none, .mv (.t 5)⟩,
        ⟨(some 12), none, .mv (.t 0)⟩,
        ⟨(some 13), none, .len (.t 12)⟩,
        ⟨(some 14), none, .bin .lss (.t 11) (.t 13)⟩]) (
     .cond (.t 14) (
      .skip) (
      .exit 0))) (
    .seq (
     .block 1 (
      .seq (
       .drw none 10 [⟨(some 17), none, .mv (.t 0)⟩,
         ⟨(some 18), none, .mv (.t 5)⟩,
         ⟨(some 19), none, .iad 3 (.t 17) (.t 18)⟩,
         ⟨(some 20), none, .ld 3 true (.t 19)⟩,
         ⟨(some 21), none, .mv (.t 1)⟩,
         ⟨(some 22), none, .mv (.t 5)⟩,
         ⟨(some 23), none, .iad 3 (.t 21) (.t 22)⟩,
         ⟨(some 24), none, .ld 3 true (.t 23)⟩,
         ⟨(some 25), none, .call 137 [(.t 20), (.t 24)]⟩,
         ⟨(some 26), none, .not (.t 25)⟩]) (
      .cond (.t 26) (
       .seq (
        .reg none [⟨(some 4), none, .asn (.c (.bool false))⟩]) (
       .ret)) (
       .skip)))) (
    .reg none [⟨(some 15), none, .mv (.t 5)⟩,
      ⟨(some 16), none, .bin .add (.t 15) (.c (.int .i64 (1)))⟩,
      ⟨(some 5), none, .asn (.t 16)⟩])))))) (
 .seq (
  .reg none [⟨(some 4), none, .asn (.c (.bool true))⟩]) (
 .ret))))
def r_laws_eqLineS : Nat × List RV := (27, [.t 4])

theorem c_laws_eqLineS : cmpS PT PF PA (Try.prog.funcs[87]?) = some (r_laws_eqLineS.1, r_laws_eqLineS.2, stripK k_laws_eqLineS) := by kernel_rfl

theorem h_eqLineS (xs : List TLine) (hx : wL wLine xs < 2 ^ 40) : CallsF Try.prog 87 [.one (.ar false 0 3 (xs.map sLine)), .one (.ar false 0 3 (xs.map sLine))] (aB true) := by
  refine Prun c_laws_eqLineS (by simp [r_laws_eqLineS]) (by simp) ?_
  unfold k_laws_eqLineS r_laws_eqLineS
  have hlen := wL_len wLine xs
  simp
  refine awp_loop (fun n σ => ∃ i : Nat, i ≤ xs.length ∧ n = xs.length - i ∧ σ = ⟨[(0, .one (.ar false 0 3 (xs.map sLine))), (1, .one (.ar false 0 3 (xs.map sLine))), (5, aI i)], []⟩) (xs.length) ⟨0, by simp⟩ ?_
  rintro n σ ⟨i, hi, rfl, rfl⟩
  by_cases h : i < xs.length
  · have hw := wL_get wLine xs i h
    simp [h, sLine]
    refine ⟨_, by simp, h_eqLine xs[i] (by omega), ?_⟩
    simp
    refine ⟨xs.length - (i + 1), by omega, i + 1, by omega, rfl, ?_⟩
    rw [wrapI (by omega) (by omega)]
    simp
  · simp [h]
end Go.Am
-- Store_eq1
namespace Go.Am
open Go.Proofs
set_option maxHeartbeats 4000000
set_option maxRecDepth 100000
attribute [-simp] BitVec.toNat_or BitVec.toNat_and BitVec.toNat_ofInt
attribute [-simp] rIS_len sIS_len shr_rIS shr_sIS shrs_rIS shrs_sIS noSh_rIS rISS_len sISS_len shr_rISS shr_sISS shrs_rISS shrs_sISS noSh_rISS rGram_len sGram_len shr_rGram shr_sGram shrs_rGram shrs_sGram noSh_rGram mGram_wr mGram_n cS_t cS_f row20_len row20_sc row20_view row20_store row20_aff row20_ref row20_noSh row20_shr row20_lend row20_take row20_drop rB_len setR_noSh
-- 44 loop.example/g00485/laws.eqStore
def k_laws_eqStore : K :=
 .seq (
  .reg none [⟨(some 2), none, .box 75 2 (.t 0)⟩,
    ⟨(some 3), none, .box 75 2 (.t 1)⟩,
    ⟨(some 4), none, .asn (.c (.bool false))⟩]) (
 .seq (
  .seq (
   .reg none [⟨(some 5), none, .fad 0 (.t 2)⟩,
     ⟨(some 6), none, .ld 1 false (.t 5)⟩,
     ⟨(some 7), none, .fad 0 (.t 3)⟩,
     ⟨(some 8), none, .ld 1 false (.t 7)⟩,
     ⟨(some 9), none, .bin .neq (.t 6) (.t 8)⟩]) (
  .cond (.t 9) (
   .seq (
    .reg none [⟨(some 4), none, .asn (.c (.bool false))⟩]) (
   .ret)) (
   .skip))) (
 .seq (
  .seq (
   .reg none [⟨(some 10), none, .fad 1 (.t 2)⟩,
     ⟨(some 11), none, .ld 1 false (.t 10)⟩,
     ⟨(some 12), none, .fad 1 (.t 3)⟩,
     ⟨(some 13), none, .ld 1 false (.t 12)⟩,
     ⟨(some 14), none, .call 87 [(.t 11), (.t 13)]⟩,
     ⟨(some 15), none, .not (.t 14)⟩]) (
  .cond (.t 15) (
   .seq (
    .reg none [⟨(some 4), none, .asn (.c (.bool false))⟩]) (
   .ret)) (
   .skip))) (
 .seq (
  .reg none [⟨(some 4), none, .asn (.c (.bool true))⟩]) (
 .ret))))
def r_laws_eqStore : Nat × List RV := (16, [.t 4])

theorem c_laws_eqStore : cmpS PT PF PA (Try.prog.funcs[44]?) = some (r_laws_eqStore.1, r_laws_eqStore.2, stripK k_laws_eqStore) := by kernel_rfl

theorem h_eqStore (a : TStore) (ha : wStore a < 2 ^ 40) : CallsF Try.prog 44 [.agg (sStore a), .agg (sStore a)] (aB true) := by
  refine Prun c_laws_eqStore (by simp [r_laws_eqStore]) (by simp) ?_
  unfold k_laws_eqStore r_laws_eqStore
  simp only [wStore] at ha
  simp [sStore]
  refine callG_F (h_eqLineS a.lines (by omega)) (by simp) ?_
  simp
end Go.Am
-- L_StoreOk
namespace Go.Am
open Go.Proofs
set_option maxHeartbeats 4000000
set_option maxRecDepth 100000
attribute [-simp] BitVec.toNat_or BitVec.toNat_and BitVec.toNat_ofInt
-- 8 loop.example/g00485/laws.FnExactStoreOk
def k_laws_FnExactStoreOk : K :=
 .seq (
  .reg none [⟨(some 2), none, .box 33 1 (.t 0)⟩,
    ⟨(some 3), none, .box 70 2 (.t 1)⟩,
    ⟨(some 4), none, .asn (.c (.bool false))⟩]) (
 .seq (
  .reg none [⟨(some 5), none, .asn (.c (.int .i64 (1048576)))⟩]) (
 .seq (
  .reg none [⟨(some 10), none, .ld 1 true (.t 2)⟩,
    ⟨(some 11), none, .mv (.t 5)⟩,
    ⟨(some 12), none, .call 15 [(.t 10), (.t 11)]⟩,
    ⟨(some 5), none, .asn (.t 12)⟩]) (
 .seq (
  .seq (
   .reg none [⟨(some 13), none, .mv (.t 5)⟩,
     ⟨(some 14), none, .bin .lss (.t 13) (.c (.int .i64 (0)))⟩]) (
  .cond (.t 14) (
   .seq (
    .reg none [⟨(some 4), none, .asn (.c (.bool true))⟩]) (
   .ret)) (
   .skip))) (
 .seq (
  .reg none [⟨(some 15), none, .ld 2 true (.t 3)⟩,
    ⟨(some 16), none, .mv (.t 5)⟩,
    ⟨(some 17), none, .call 40 [(.t 15), (.t 16)]⟩,
    ⟨(some 5), none, .asn (.t 17)⟩]) (
 .seq (
  .seq (
   .reg none [⟨(some 18), none, .mv (.t 5)⟩,
     ⟨(some 19), none, .bin .lss (.t 18) (.c (.int .i64 (0)))⟩]) (
  .cond (.t 19) (
   .seq (
    .reg none [⟨(some 4), none, .asn (.c (.bool true))⟩]) (
   .ret)) (
   .skip))) (
 .seq (
  .grp none 3 [0, 2] [1] [⟨(some 20), none, .ld 1 true (.t 2)⟩,
    ⟨(some 21), none, .call 17 [(.t 20)]⟩,
    ⟨(some 22), none, .ld 2 true (.t 3)⟩,
    ⟨(some 23), none, .call 42 [(.t 22)]⟩,
    ⟨(some 24), none, .call 41 [(.t 21), (.t 23)]⟩,
    ⟨(some 6), none, .asn (.t 24)⟩]) (
 .seq (
  .reg none [⟨(some 25), none, .ld 1 true (.t 2)⟩,
    ⟨(some 26), none, .call 17 [(.t 25)]⟩,
    ⟨(some 7), none, .alc 39 1 [(.ar true 90 1 [])]⟩,
    ⟨none, none, .st 1 false (.t 7) (.t 26)⟩]) (
 .seq (
  .reg none [⟨(some 27), none, .ld 2 true (.t 3)⟩,
    ⟨(some 28), none, .call 42 [(.t 27)]⟩,
    ⟨(some 8), none, .alc 75 2 [(.int .i64 (0)), (.ar true 119 3 [])]⟩,
    ⟨none, none, .st 2 false (.t 8) (.t 28)⟩]) (
 .seq (
  .reg none [⟨(some 29), none, .ld 1 true (.t 7)⟩,
    ⟨(some 30), none, .ld 2 true (.t 8)⟩,
    ⟨(some 31), none, .call 43 [(.t 29), (.t 30)]⟩,
    ⟨(some 9), none, .asn (.t 31)⟩]) (
 .seq (
  .seq (
   .reg none [⟨(some 32), none, .mv (.t 9)⟩,
     ⟨(some 33), none, .mv (.t 6)⟩,
     ⟨(some 34), none, .beq true (.t 32) (.t 33)⟩]) (
  .cond (.t 34) (
   .seq (
    .reg none [⟨(some 4), none, .asn (.c (.bool false))⟩]) (
   .ret)) (
   .skip))) (
 .seq (
  .seq (
   .grp none 3 [0, 1] [2] [⟨(some 35), none, .ld 1 true (.t 7)⟩,
     ⟨(some 36), none, .ld 1 true (.t 2)⟩,
     ⟨(some 37), none, .call 17 [(.t 36)]⟩,
     ⟨(some 38), none, .call 21 [(.t 35), (.t 37)]⟩,
     ⟨(some 39), none, .not (.t 38)⟩]) (
  .cond (.t 39) (
   .seq (
    .reg none [⟨(some 4), none, .asn (.c (.bool false))⟩]) (
   .ret)) (
   .skip))) (
 .seq (
  .seq (
   .grp none 3 [0, 1] [2] [⟨(some 40), none, .ld 2 true (.t 8)⟩,
     ⟨(some 41), none, .ld 2 true (.t 3)⟩,
     ⟨(some 42), none, .call 42 [(.t 41)]⟩,
     ⟨(some 43), none, .call 44 [(.t 40), (.t 42)]⟩,
     ⟨(some 44), none, .not (.t 43)⟩]) (
  .cond (.t 44) (
   .seq (
    .reg none [⟨(some 4), none, .asn (.c (.bool false))⟩]) (
   .ret)) (
   .skip))) (
 .seq (
  .reg none [⟨(some 4), none, .asn (.c (.bool true))⟩]) (
 .ret))))))))))))))
def r_laws_FnExactStoreOk : Nat × List RV := (45, [.t 4])

theorem c_laws_FnExactStoreOk : cmpS PT PF PA (Try.prog.funcs[8]?) = some (r_laws_FnExactStoreOk.1, r_laws_FnExactStoreOk.2, stripK k_laws_FnExactStoreOk) := by kernel_rfl

set_option maxRecDepth 100000 in
theorem h_law_StoreOk (g : TGram) (hlg : lGram g) (s : TStore) (hls : lStore s) : CallsF Try.prog 8 [.agg (sGram g), .agg (sStore s)] (aB true) := by
  refine Prun c_laws_FnExactStoreOk (by simp [r_laws_FnExactStoreOk]) (by simp) ?_
  unfold k_laws_FnExactStoreOk r_laws_FnExactStoreOk
  have hsz := h_szGram g 1048576 hlg (by omega) (by omega)
  obtain ⟨ps⟩ := g
  obtain ⟨cap, ls⟩ := s
  simp only [sGram] at hsz
  simp [sGram, sStore]
  refine callG_F hsz (by simp) ?_
  by_cases g1 : (1048576 : Int) < (wGram ⟨ps⟩ : Int)
  · simp [lft_neg g1]
  have e1 : lft 1048576 (wGram ⟨ps⟩) = 1048576 - wGram ⟨ps⟩ := lft_pos (by omega)
  have n1 : ¬ (1048576 : Int) - wGram ⟨ps⟩ < 0 := by omega
  simp [e1, n1]
  have hsc := h_szStore ⟨cap, ls⟩ (1048576 - wGram ⟨ps⟩) hls (by omega) (by omega)
  simp only [sStore] at hsc
  refine callG_F hsc (by simp) ?_
  by_cases g2 : (1048576 : Int) - wGram ⟨ps⟩ < (wStore ⟨cap, ls⟩ : Int)
  · simp [lft_neg g2]
  have e2 : lft (1048576 - wGram ⟨ps⟩) (wStore ⟨cap, ls⟩) = 1048576 - wGram ⟨ps⟩ - wStore ⟨cap, ls⟩ := lft_pos (by omega)
  have n5 : ¬ (1048576 : Int) - wGram ⟨ps⟩ - wStore ⟨cap, ls⟩ < 0 := by omega
  simp [e2, n5]
  have htg := h_toGram ⟨ps⟩ (by omega)
  have hts := h_toStore ⟨cap, ls⟩ (by omega)
  have hs := h_spec_StoreOk ⟨ps⟩ ⟨cap, ls⟩ (by omega) hlg (by omega)
  have hi := h_impl_StoreOk ⟨ps⟩ ⟨cap, ls⟩ (by omega) hlg hls (by omega)
  generalize storeG ⟨ps⟩ ⟨cap, ls⟩ = T at *
  have heg := h_eqGram ⟨ps⟩ (by omega)
  have hes := h_eqStore ⟨cap, ls⟩ (by omega)
  simp only [sGram, rGram, sStore, rStore] at htg hs hi heg hts hes
  first | refine callG_F htg (by simp) ?_ | refine callOG_F htg (by simp) ?_ | refine gcal_F htg (by simp) ?_ | refine callRG_F htg rfl rfl (by simp) (by simp) ?_ | refine ⟨_, by simp, htg, ?_⟩
  try simp
  first | refine callG_F hts (by simp) ?_ | refine callOG_F hts (by simp) ?_ | refine gcal_F hts (by simp) ?_ | refine callRG_F hts rfl rfl (by simp) (by simp) ?_ | refine ⟨_, by simp, hts, ?_⟩
  try simp
  first | refine callG_F hs (by simp) ?_ | refine callOG_F hs (by simp) ?_ | refine gcal_F hs (by simp) ?_ | refine callRG_F hs rfl rfl (by simp) (by simp) ?_ | refine ⟨_, by simp, hs, ?_⟩
  try simp
  first | refine callG_F htg (by simp) ?_ | refine callOG_F htg (by simp) ?_ | refine gcal_F htg (by simp) ?_ | refine callRG_F htg rfl rfl (by simp) (by simp) ?_ | refine ⟨_, by simp, htg, ?_⟩
  try simp
  first | refine callG_F hts (by simp) ?_ | refine callOG_F hts (by simp) ?_ | refine gcal_F hts (by simp) ?_ | refine callRG_F hts rfl rfl (by simp) (by simp) ?_ | refine ⟨_, by simp, hts, ?_⟩
  try simp
  first | refine callG_F hi (by simp) ?_ | refine callOG_F hi (by simp) ?_ | refine gcal_F hi (by simp) ?_ | refine callRG_F hi rfl rfl (by simp) (by simp) ?_ | refine ⟨_, by simp, hi, ?_⟩
  try simp
  first | refine callG_F htg (by simp) ?_ | refine callOG_F htg (by simp) ?_ | refine gcal_F htg (by simp) ?_ | refine callRG_F htg rfl rfl (by simp) (by simp) ?_ | refine ⟨_, by simp, htg, ?_⟩
  try simp
  first | refine callG_F heg (by simp) ?_ | refine callOG_F heg (by simp) ?_ | refine gcal_F heg (by simp) ?_ | refine callRG_F heg rfl rfl (by simp) (by simp) ?_ | refine ⟨_, by simp, heg, ?_⟩
  try simp
  first | refine callG_F hts (by simp) ?_ | refine callOG_F hts (by simp) ?_ | refine gcal_F hts (by simp) ?_ | refine callRG_F hts rfl rfl (by simp) (by simp) ?_ | refine ⟨_, by simp, hts, ?_⟩
  try simp
  first | refine callG_F hes (by simp) ?_ | refine callOG_F hes (by simp) ?_ | refine gcal_F hes (by simp) ?_ | refine callRG_F hes rfl rfl (by simp) (by simp) ?_ | refine ⟨_, by simp, hes, ?_⟩
  try simp
end Go.Am
-- Gram_sh
namespace Go.Am
open Go.Proofs
set_option maxHeartbeats 4000000
set_option maxRecDepth 100000
attribute [-simp] BitVec.toNat_or BitVec.toNat_and BitVec.toNat_ofInt
attribute [-simp] rConf_len sConf_len shr_rConf shr_sConf shrs_rConf shrs_sConf noSh_rConf mConf_wr mConf_n rLine_len sLine_len shr_rLine shr_sLine shrs_rLine shrs_sLine noSh_rLine mLine_wr mLine_n rStore_len sStore_len shr_rStore shr_sStore shrs_rStore shrs_sStore noSh_rStore mStore_wr mStore_n cS_t cS_f row20_len row20_sc row20_view row20_store row20_aff row20_ref row20_noSh row20_shr row20_lend row20_take row20_drop rB_len setR_noSh
def shGram : List Sh := [.l 1 [.l 1 [.l 1 [.i]]]]
theorem of_Gram (x : List C) (h : inShs shGram x) : ∃ a : TGram, x = sGram a ∧ lGram a := by
  simp only [shGram, inShs] at h
  obtain ⟨c0, r0, rfl, h0, rfl⟩ := h
  obtain ⟨n0, rfl, g0⟩ := of_sl of_ISS c0 h0
  refine ⟨⟨n0⟩, rfl, ?_⟩
  simp only [lGram]
  exact g0
end Go.Am
-- Conf_sh
namespace Go.Am
open Go.Proofs
set_option maxHeartbeats 4000000
set_option maxRecDepth 100000
attribute [-simp] BitVec.toNat_or BitVec.toNat_and BitVec.toNat_ofInt
attribute [-simp] rLine_len sLine_len shr_rLine shr_sLine shrs_rLine shrs_sLine noSh_rLine mLine_wr mLine_n rStore_len sStore_len shr_rStore shr_sStore shrs_rStore shrs_sStore noSh_rStore mStore_wr mStore_n rIS_len sIS_len shr_rIS shr_sIS shrs_rIS shrs_sIS noSh_rIS rISS_len sISS_len shr_rISS shr_sISS shrs_rISS shrs_sISS noSh_rISS rGram_len sGram_len shr_rGram shr_sGram shrs_rGram shrs_sGram noSh_rGram mGram_wr mGram_n cS_t cS_f row20_len row20_sc row20_view row20_store row20_aff row20_ref row20_noSh row20_shr row20_lend row20_take row20_drop rB_len setR_noSh
def shConf : List Sh := [.i, .l 1 [.i]]
theorem of_Conf (x : List C) (h : inShs shConf x) : ∃ a : TConf, x = sConf a ∧ lConf a := by
  simp only [shConf, inShs] at h
  obtain ⟨c0, r0, rfl, h0, c1, r1, rfl, h1, rfl⟩ := h
  simp only [inSh] at h0
  obtain ⟨n0, rfl, v0⟩ := h0
  obtain ⟨n1, rfl, g1⟩ := of_sl of_int c1 h1
  refine ⟨⟨n0, n1⟩, rfl, ?_⟩
  simp only [lConf]
  exact g1
end Go.Am
-- Line_sh
namespace Go.Am
open Go.Proofs
set_option maxHeartbeats 4000000
set_option maxRecDepth 100000
attribute [-simp] BitVec.toNat_or BitVec.toNat_and BitVec.toNat_ofInt
attribute [-simp] rStore_len sStore_len shr_rStore shr_sStore shrs_rStore shrs_sStore noSh_rStore mStore_wr mStore_n rIS_len sIS_len shr_rIS shr_sIS shrs_rIS shrs_sIS noSh_rIS rISS_len sISS_len shr_rISS shr_sISS shrs_rISS shrs_sISS noSh_rISS rGram_len sGram_len shr_rGram shr_sGram shrs_rGram shrs_sGram noSh_rGram mGram_wr mGram_n cS_t cS_f row20_len row20_sc row20_view row20_store row20_aff row20_ref row20_noSh row20_shr row20_lend row20_take row20_drop rB_len setR_noSh
def shLine : List Sh := [.l 2 shConf, .i, .l 2 shConf]
theorem of_Line (x : List C) (h : inShs shLine x) : ∃ a : TLine, x = sLine a ∧ lLine a := by
  simp only [shLine, inShs] at h
  obtain ⟨c0, r0, rfl, h0, c1, r1, rfl, h1, c2, r2, rfl, h2, rfl⟩ := h
  obtain ⟨n0, rfl, g0⟩ := of_sl of_Conf c0 h0
  simp only [inSh] at h1
  obtain ⟨n1, rfl, v1⟩ := h1
  obtain ⟨n2, rfl, g2⟩ := of_sl of_Conf c2 h2
  refine ⟨⟨n0, n1, n2⟩, rfl, ?_⟩
  simp only [lLine]
  exact ⟨g0, g2⟩
end Go.Am
-- Store_sh
namespace Go.Am
open Go.Proofs
set_option maxHeartbeats 4000000
set_option maxRecDepth 100000
attribute [-simp] BitVec.toNat_or BitVec.toNat_and BitVec.toNat_ofInt
attribute [-simp] rIS_len sIS_len shr_rIS shr_sIS shrs_rIS shrs_sIS noSh_rIS rISS_len sISS_len shr_rISS shr_sISS shrs_rISS shrs_sISS noSh_rISS rGram_len sGram_len shr_rGram shr_sGram shrs_rGram shrs_sGram noSh_rGram mGram_wr mGram_n cS_t cS_f row20_len row20_sc row20_view row20_store row20_aff row20_ref row20_noSh row20_shr row20_lend row20_take row20_drop rB_len setR_noSh
def shStore : List Sh := [.i, .l 3 shLine]
theorem of_Store (x : List C) (h : inShs shStore x) : ∃ a : TStore, x = sStore a ∧ lStore a := by
  simp only [shStore, inShs] at h
  obtain ⟨c0, r0, rfl, h0, c1, r1, rfl, h1, rfl⟩ := h
  simp only [inSh] at h0
  obtain ⟨n0, rfl, v0⟩ := h0
  obtain ⟨n1, rfl, g1⟩ := of_sl of_Line c1 h1
  refine ⟨⟨n0, n1⟩, rfl, ?_⟩
  simp only [lStore]
  exact g1
end Go.Am
-- B_FnExactStoreOk
namespace Go.Am
open Go.Proofs
set_option maxHeartbeats 4000000
set_option maxRecDepth 100000
attribute [-simp] BitVec.toNat_or BitVec.toNat_and BitVec.toNat_ofInt
open Go.ChangeShapes Go.WideShapes Go.ChangeAt Go.RowKit Go.Proofs.Ytfcbminodkjklaa
theorem own_FnExactStoreOk : ownKnob Try.prog.godebug = none := by kernel_rfl
theorem laidOut_FnExactStoreOk : laidOutB Try.prog = true := by kernel_rfl
set_option maxRecDepth 100000 in
theorem lifted_FnExactStoreOk (os : Os) (started : os.Started) (H : Type) (enc : TypeId × Value → H) :
    ReturnsInHanded {} Try.checked os 8 .any (Rows.fnExactStoreOkSpec.pre6 enc Try.prog Try.f8 Rows.fnExactStoreOkRow.domain false) (Rows.fnExactStoreOkSpec.post enc Try.prog Try.f8 false true false false) := by
  refine returnsInHanded_of_change (C := Try.checked) own_FnExactStoreOk started (by kernel_rfl) Try.func8
    (ChangeSpec.witness6 (enc := enc) (C := Try.checked) false ⟨#[], #[.agg #[.slice none 0 0], .agg #[.int .i64 0, .slice none 0 0]], []⟩ 8 (by kernel_rfl) (by kernel_rfl) (by kernel_rfl) (by kernel_rfl)) ?_
  intro W base args ds gs before hval0 hW hcnd _
  have hval : ∀ (j : Nat) t v, Try.f8.params[j]? = some t → args[j]? = some v → Value.okWide Try.prog W .any base t v := hval0
  have hW' := hW
  obtain ⟨p, q, hA0, hV, rfl, hfz, hnd⟩ := hW
  have hA : DataW.TrodAll enc Try.prog W 0 (fun _ => true) true Try.f8.params.toList args.toList ds p := hA0
  rw [Try.params8] at hA hval
  obtain ⟨v0, v1, d0, d1, p0, p1, rfl, rfl, rfl, h0, h1⟩ := trodAll_two hA
  obtain ⟨rfl, rfl⟩ := trodVars_none hV
  have hV0 : ∀ (W' : World) (sp : Nat → Bool), DataW.TrodVars enc Try.checked.prog W' sp Rows.fnExactStoreOkSpec.vars ([] : List (DataW H)) [] := fun _ _ => by first | rfl | trivial | exact ⟨rfl, rfl⟩ | exact ⟨_, rfl, rfl⟩
  have hk0 := h0
  have hs0 : shT Try.prog 12 33 = some shGram := by kernel_rfl
  obtain ⟨row0, hc0, hr0⟩ := arg_st (lc := fun _ => none) Try.underlying33 hs0 (hval 0 33 v0 rfl rfl) h0
  obtain ⟨x0, rfl, hl0⟩ := of_Gram row0 hc0
  have hk1 := h1
  have hs1 : shT Try.prog 12 70 = some shStore := by kernel_rfl
  obtain ⟨row1, hc1, hr1⟩ := arg_st (lc := fun _ => none) Try.underlying70 hs1 (hval 1 70 v1 rfl rfl) h1
  obtain ⟨x1, rfl, hl1⟩ := of_Store row1 hc1
  clear hA0 hval0
  simp only [List.append_nil] at hW'
  refine (below_of (h_law_StoreOk x0 hl0 x1 hl1) (fun _ _ _ _ h => h.1) W [v0, v1] (by simp [sGram, sStore, aI, aS, A.ref, C.ref, refCs]) ⟨_, _, fz, fz, rfl, (add_fz _).symm, hr0, ⟨_, _, fz, fz, rfl, (add_fz _).symm, hr1, ⟨rfl, rfl⟩⟩⟩ rfl).mono fun e W' ⟨he, hw⟩ => ?_
  subst he
  exact ⟨_, rfl, [d0, d1], [], _, [], _, [], by simpa using hW', trodAll_mk1 (shut_bool Try.underlying4 true), trodAll_mk2 (Below.trod laidOut_FnExactStoreOk (by kernel_rfl) (of_decide_eq_true (by kernel_rfl)) hk0 hw (fun x hx => by have := hW'.lt x (by simp [hx]); simpa using this)) (Below.trod laidOut_FnExactStoreOk (by kernel_rfl) (of_decide_eq_true (by kernel_rfl)) hk1 hw (fun x hx => by have := hW'.lt x (by simp [hx]); simpa using this)), hV0 _ _, hw.frame _, fun h => by cases h⟩
theorem holds_FnExactStoreOk : Rows.FnExactStoreOkSaid :=
  OpenClaim.holds_of_wide 8 Try.f8 rfl rfl rfl rfl rfl rfl rfl ⟨rfl, rfl, rfl, rfl, rfl⟩ rfl rfl rfl rfl rfl (by kernel_rfl) Try.func8 (by kernel_rfl)
    (of_decide_eq_true (by kernel_rfl)) (by unfold Func.isWrapper; first | (rw [if_pos (by decide +kernel)]; kernel_rfl) | (rw [if_neg (by decide +kernel)]; exact ⟨rfl, rfl⟩))
    (fun os started H enc _ => lifted_FnExactStoreOk os started H enc)
#print axioms holds_FnExactStoreOk
end Go.Am
namespace Go.Proofs.Ytfcbminodkjklaa
theorem fnExactStoreOk_holds : Rows.FnExactStoreOkSaid := Go.Am.holds_FnExactStoreOk
end Go.Proofs.Ytfcbminodkjklaa
