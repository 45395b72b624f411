/- PROVED: what the program tells by looking ahead with sets is what the reference tells -/
import Derived.Test.YtfcbminodkjklaaSimulate2
import Derived.Test.YtfcbminodkjklaaRows
import Derived.ProofKit
set_option linter.unusedVariables false
set_option linter.unusedSimpArgs false
-- SimFn
namespace Go.Am
open Go.Proofs
set_option maxHeartbeats 4000000
set_option maxRecDepth 100000
attribute [-simp] BitVec.toNat_or BitVec.toNat_and BitVec.toNat_ofInt
def LeastI (xs : List TConf) (whole : Bool) (T : Int) (n : Nat) (σ : St) : Prop := ∃ (i : Nat) (b : Int) (ob : List (Nat × Obj)), i ≤ xs.length ∧ n = xs.length - i ∧ T = (xs.drop i).foldl (fun b c => if (whole = false ∨ c.row = []) ∧ (b < 0 ∨ c.alt < b) then c.alt else b) b ∧ (ob = [] ∨ ∃ o, ob = [(7, o)]) ∧ σ = ⟨[(1, aB whole), (5, aI b), (8, .one (.ar false 0 2 (xs.map sConf))), (9, aI xs.length), (10, aI i)], ob⟩
-- 131 loop.example/g00485/impl.leastAlt
def k_impl_leastAlt : K :=
 .seq (
  .reg none [⟨(some 4), none, .asn (.c (.int .i64 (0)))⟩]) (
 .seq (
  .reg none [⟨(some 5), none, .asn (.c (.int .i64 (-1)))⟩]) (
 .seq (
  .seq (
   .reg none [⟨(some 8), none, .mv (.t 0)⟩,
     ⟨(some 9), none, .len (.t 8)⟩,
     ⟨(some 10), none, .mv (.c (.int .i64 (0)))⟩]) (
  .block 0 (
   .loop (some ([1, 5, 8, 9, 10], [0, 1, 5, 7, 1000])) (
    .seq (
     .reg none [⟨(some 11), none, .bin .lss (.t 10) (.t 9)⟩]) (
    .seq (
     .cond (.t 11) (
      .skip) (
      .exit 0)) (
    .seq (
     .block 1 (
      .seq (
       .reg none [⟨(some 12), none, .iad 2 (.t 8) (.t 10)⟩,
         ⟨(some 13), none, .ld 2 true (.t 12)⟩,
         ⟨(some 7), none, .alc 96 2 [(.int .i64 (0)), (.ar true 3 1 [])]⟩,
         ⟨none, none, .st 2 false (.t 7) (.t 13)⟩]) (
      .seq (
       .reg none [⟨(some 14), none, .mv (.t 1)⟩,
         ⟨(some 15), none, .not (.t 14)⟩,
         ⟨(some 16), none, .mv (.t 15)⟩,
         ⟨(some 17), (some (16, false)), .fad 1 (.t 7)⟩,
         ⟨(some 18), (some (16, false)), .ld 1 false (.t 17)⟩,
         ⟨(some 19), (some (16, false)), .len (.t 18)⟩,
         ⟨(some 20), (some (16, false)), .bin .eql (.t 19) (.c (.int .i64 (0)))⟩,
         ⟨(some 21), none, .pick (.t 16) (.c (.bool true)) (.t 20)⟩,
         ⟨(some 22), none, .mv (.t 21)⟩,
         ⟨(some 23), (some (22, true)), .mv (.t 5)⟩,
         ⟨(some 24), (some (22, true)), .bin .lss (.t 23) (.c (.int .i64 (0)))⟩,
         ⟨(some 25), (some (22, true)), .mv (.t 24)⟩,
         ⟨(some 26), (some (25, false)), .fad 0 (.t 7)⟩,
         ⟨(some 27), (some (25, false)), .ld 1 false (.t 26)⟩,
         ⟨(some 28), (some (25, false)), .mv (.t 5)⟩,
         ⟨(some 29), (some (25, false)), .bin .lss (.t 27) (.t 28)⟩,
         ⟨(some 30), (some (22, true)), .pick (.t 25) (.c (.bool true)) (.t 29)⟩,
         ⟨(some 31), none, .pick (.t 22) (.t 30) (.c (.bool false))⟩]) (
      .cond (.t 31) (
       .reg none [⟨(some 32), none, .fad 0 (.t 7)⟩,
         ⟨(some 33), none, .ld 1 false (.t 32)⟩,
         ⟨(some 5), none, .asn (.t 33)⟩]) (
       .skip))))) (
    .reg none [⟨(some 34), none, .bin .add (.t 10) (.c (.int .i64 (1)))⟩,
      ⟨(some 10), none, .mv (.t 34)⟩]))))))) (
 .seq (
  .reg none [⟨(some 35), none, .mv (.t 5)⟩,
    ⟨(some 4), none, .asn (.t 35)⟩]) (
 .ret))))
def r_impl_leastAlt : Nat × List RV := (36, [.t 4])

theorem c_impl_leastAlt : cmpS PT PF PA (Try.prog.funcs[131]?) = some (r_impl_leastAlt.1, r_impl_leastAlt.2, stripK k_impl_leastAlt) := by kernel_rfl

theorem h_leastAlt (xs : List TConf) (whole : Bool) (hn : xs.length < 2 ^ 31) : CallsF Try.prog 131 [.one (.ar false 0 2 (xs.map sConf)), aB whole] (aI (leastS whole xs)) := by
  refine Prun c_impl_leastAlt (by simp [r_impl_leastAlt]) (by simp) ?_
  unfold k_impl_leastAlt r_impl_leastAlt
  simp
  have hT : leastS whole xs = (xs.drop 0).foldl (fun b c => if (whole = false ∨ c.row = []) ∧ (b < 0 ∨ c.alt < b) then c.alt else b) (-1) := rfl
  generalize leastS whole xs = T at *
  refine awp_loop (LeastI xs whole T) (xs.length) ⟨0, -1, [], by omega, rfl, hT, .inl rfl, by simp⟩ ?_
  clear hT
  rintro n σ ⟨i, b, ob, hi, rfl, ht, hob, rfl⟩
  by_cases h : i < xs.length
  case neg =>
    rw [foldl_end h] at ht
    rcases hob with rfl | ⟨o, rfl⟩ <;> simp [h, ht]
  rw [foldl_drop h] at ht
  have wi : IntKind.i64.wrap ((i : Int) + 1) = i + 1 := wrapI (by omega) (by omega)
  obtain ⟨c, hc⟩ : ∃ c, xs[i] = c := ⟨_, rfl⟩
  rw [hc] at ht
  obtain ⟨a, row⟩ := c
  have hfin : ∀ b2, (if (whole = false ∨ row = []) ∧ (b < 0 ∨ a < b) then a else b) = b2 → T = (xs.drop (i + 1)).foldl (fun b c => if (whole = false ∨ c.row = []) ∧ (b < 0 ∨ c.alt < b) then c.alt else b) b2 := fun b2 h => by rw [ht, h]
  clear ht
  rcases hob with rfl | ⟨o, rfl⟩ <;> by_cases c2 : b < 0 <;> by_cases c3 : a < b <;> cases whole <;> cases row
  all_goals
    have hf := hfin _ rfl
    have n1 : ∀ k : Nat, ¬ (k : Int) + 1 = 0 := fun k => by omega
    simp [c2, c3, -List.foldl_cons] at hf
    simp [h, hc, sConf, c2, c3, n1]
    exact ⟨xs.length - (i + 1), by omega, i + 1, _, _, by omega, rfl, by simpa using hf, .inr ⟨_, rfl⟩, by rw [wi]; simp; exact rfl⟩
-- 78 loop.example/g00485/spec.l11Pick
def k_spec_l11Pick : K :=
 .seq (
  .reg none [⟨(some 4), none, .asn (.c (.int .i64 (0)))⟩]) (
 .seq (
  .reg none [⟨(some 7), none, .bls 3 1 false []⟩,
    ⟨(some 5), none, .asn (.t 7)⟩]) (
 .seq (
  .seq (
   .reg none [⟨(some 6), none, .asn (.c (.int .i64 (0)))⟩]) (
  .block 0 (
   .loop (some ([0, 1, 5, 6], [0, 1, 5, 6, 1000])) (
    .seq (
     .seq (
      .reg none [⟨(some 8), none, .mv (.t 6)⟩,
        ⟨(some 9), none, .mv (.t 0)⟩,
        ⟨(some 10), none, .len (.t 9)⟩,
        ⟨(some 11), none, .bin .lss (.t 8) (.t 10)⟩]) (
     .cond (.t 11) (
      .skip) (
      .exit 0))) (
    .seq (
     .block 1 (
      .seq (
       .reg none [⟨(some 14), none, .mv (.t 1)⟩,
         ⟨(some 15), none, .mv (.t 14)⟩,
         ⟨(some 16), (some (15, true)), .mv (.t 0)⟩,
         ⟨(some 17), (some (15, true)), .mv (.t 6)⟩,
         ⟨(some 18), (some (15, true)), .iad 2 (.t 16) (.t 17)⟩,
         ⟨(some 19), (some (15, true)), .fad 1 (.t 18)⟩,
         ⟨(some 20), (some (15, true)), .ld 1 false (.t 19)⟩,
         ⟨(some 21), (some (15, true)), .len (.t 20)⟩,
         ⟨(some 22), (some (15, true)), .bin .eql (.t 21) (.c (.int .i64 (0)))⟩,
         ⟨(some 23), none, .pick (.t 15) (.t 22) (.c (.bool false))⟩]) (
      .cond (.t 23) (
       .reg none [⟨(some 24), none, .mv (.t 5)⟩,
         ⟨(some 25), none, .mv (.t 0)⟩,
         ⟨(some 26), none, .mv (.t 6)⟩,
         ⟨(some 27), none, .iad 2 (.t 25) (.t 26)⟩,
         ⟨(some 28), none, .fad 0 (.t 27)⟩,
         ⟨(some 29), none, .ld 1 false (.t 28)⟩,
         ⟨(some 30), none, .call 129 [(.t 24), (.t 29)]⟩,
         ⟨(some 5), none, .asn (.t 30)⟩]) (
       .skip)))) (
    .reg none [⟨(some 12), none, .mv (.t 6)⟩,
      ⟨(some 13), none, .bin .add (.t 12) (.c (.int .i64 (1)))⟩,
      ⟨(some 6), none, .asn (.t 13)⟩])))))) (
 .seq (
  .seq (
   .reg none [⟨(some 31), none, .mv (.t 5)⟩,
     ⟨(some 32), none, .len (.t 31)⟩,
     ⟨(some 33), none, .bin .gtr (.t 32) (.c (.int .i64 (0)))⟩]) (
  .cond (.t 33) (
   .seq (
    .reg none [⟨(some 34), none, .mv (.t 5)⟩,
      ⟨(some 35), none, .iad 1 (.t 34) (.c (.int .i64 (0)))⟩,
      ⟨(some 36), none, .ld 1 false (.t 35)⟩,
      ⟨(some 4), none, .asn (.t 36)⟩]) (
   .ret)) (
   .skip))) (
 .seq (
  .reg none [⟨(some 37), none, .mv (.t 0)⟩,
    ⟨(some 38), none, .callf 77 [(.t 37)]⟩,
    ⟨(some 39), none, .iad 1 (.t 38) (.c (.int .i64 (0)))⟩,
    ⟨(some 40), none, .ld 1 false (.t 39)⟩,
    ⟨(some 4), none, .asn (.t 40)⟩]) (
 .ret)))))
def r_spec_l11Pick : Nat × List RV := (41, [.t 4])

theorem c_spec_l11Pick : cmpS PT PF PA (Try.prog.funcs[78]?) = some (r_spec_l11Pick.1, r_spec_l11Pick.2, stripK k_spec_l11Pick) := by kernel_rfl

theorem h_spec_l11Pick (xs : List TConf) (ended : Bool) (hn : xs.length < 2 ^ 30) (hne : setAlts xs ≠ []) : CallsF Try.prog 78 [.one (.ar false 0 2 (xs.map sConf)), aB ended] (aI (pickS ended xs)) := by
  refine Prun c_spec_l11Pick (by simp [r_spec_l11Pick]) (by simp) ?_
  unfold k_spec_l11Pick r_spec_l11Pick
  have hsa := h_spec_SetAlts xs hn
  simp
  have hT : wholeL ended xs = (xs.drop 0).foldl (fun l c => if ended = true ∧ c.row = [] then setAdd l c.alt else l) [] := rfl
  unfold pickS
  generalize wholeL ended xs = T at *
  refine awp_loop (fun n σ => ∃ (i : Nat) (l : List Int), i ≤ xs.length ∧ n = xs.length - i ∧ l.length ≤ i ∧ T = (xs.drop i).foldl (fun l c => if ended = true ∧ c.row = [] then setAdd l c.alt else l) l ∧ σ = ⟨[(0, .one (.ar false 0 2 (xs.map sConf))), (1, aB ended), (5, .one (.vw 3 1 5 [] 0 l.length)), (6, aI i)], [(5, ⟨3, 1, l.map rI⟩)]⟩) (xs.length) ⟨0, [], by omega, rfl, by simp, hT, by simp⟩ ?_
  clear hT
  rintro n σ ⟨i, l, hi, rfl, hl, ht, rfl⟩
  by_cases h : i < xs.length
  case neg =>
    rw [foldl_end h] at ht
    subst ht
    cases T with
    | cons a r =>
      have : (0 : Int) < r.length + 1 := by omega
      simp [h, this, hdI]
    | nil =>
      simp [h]
      refine callG_F hsa (by simp) ?_
      cases hq : setAlts xs with
      | nil => exact absurd hq hne
      | cons a r =>
        have : (0 : Int) < r.length + 1 := by omega
        simp [this, hdI]
  rw [foldl_drop h] at ht
  have wi : IntKind.i64.wrap ((i : Int) + 1) = i + 1 := wrapI (by omega) (by omega)
  obtain ⟨c, hc⟩ : ∃ c, xs[i] = c := ⟨_, rfl⟩
  rw [hc] at ht
  obtain ⟨a, row⟩ := c
  have hadd := h_spec_SetAdd l a (by omega)
  have hlen := setAdd_len l a
  cases ended with
  | false =>
    simp at ht
    simp [h]
    exact ⟨xs.length - (i + 1), by omega, i + 1, by omega, rfl, l, by omega, by simpa using ht, by rw [wi]; simp⟩
  | true =>
    cases row with
    | nil =>
      simp at ht
      simp [h, hc, sConf]
      refine callG_F hadd (by simp) ?_
      simp
      exact ⟨xs.length - (i + 1), by omega, i + 1, by omega, rfl, setAdd l a, by omega, by simpa using ht, by rw [wi]; simp⟩
    | cons y r =>
      have n1 : ¬ (r.length : Int) + 1 = 0 := by omega
      simp at ht
      simp [h, hc, sConf, n1]
      exact ⟨xs.length - (i + 1), by omega, i + 1, by omega, rfl, l, by omega, by simpa using ht, by rw [wi]; simp⟩
-- 79 loop.example/g00485/impl.canLook
def k_impl_canLook : K :=
 .seq (
  .reg none [⟨(some 3), none, .box 39 1 (.t 0)⟩,
    ⟨(some 6), none, .asn (.c (.bool false))⟩]) (
 .seq (
  .reg none [⟨(some 7), none, .mv (.t 1)⟩,
    ⟨(some 8), none, .call 96 [(.t 7)]⟩,
    ⟨(some 9), none, .mv (.t 8)⟩,
    ⟨(some 10), (some (9, true)), .mv (.t 2)⟩,
    ⟨(some 11), (some (9, true)), .mv (.t 1)⟩,
    ⟨(some 12), (some (9, true)), .len (.t 11)⟩,
    ⟨(some 13), (some (9, true)), .call 93 [(.t 10), (.c (.int .i64 (0))), (.t 12)]⟩,
    ⟨(some 14), none, .pick (.t 9) (.t 13) (.c (.bool false))⟩,
    ⟨(some 15), none, .mv (.t 14)⟩,
    ⟨(some 16), (some (15, true)), .ld 1 true (.t 3)⟩,
    ⟨(some 17), (some (15, true)), .call 58 [(.t 16)]⟩,
    ⟨(some 18), none, .pick (.t 15) (.t 17) (.c (.bool false))⟩,
    ⟨(some 6), none, .asn (.t 18)⟩]) (
 .ret))
def r_impl_canLook : Nat × List RV := (19, [.t 6])

theorem c_impl_canLook : cmpS PT PF PA (Try.prog.funcs[79]?) = some (r_impl_canLook.1, r_impl_canLook.2, stripK k_impl_canLook) := by kernel_rfl

theorem h_canLook (g : TGram) (w : List Int) (at' : Int) (hw : wGram g < 2 ^ 31) (hl : lGram g) (hwl : w.length < 2 ^ 40) : CallsF Try.prog 79 [.agg (sGram g), .one (.ar false 0 1 (w.map rI)), aI at'] (aB (inputOk w && (inr at' 0 w.length && decide (checkG g = 0)))) := by
  refine Prun c_impl_canLook (by simp [r_impl_canLook]) (by simp) ?_
  unfold k_impl_canLook r_impl_canLook
  have hgd := h_isGood g hw hl
  have hio := h_impl_InputOk w (by omega)
  obtain ⟨ps⟩ := g
  simp only [sGram] at hgd
  simp [sGram]
  refine callG_F hio (by simp) ?_
  cases inputOk w with
  | false => simp
  | true =>
    simp
    refine callG_F (h_impl_inRange _ _ _) (by simp) ?_
    cases inr at' 0 w.length with
    | false => simp
    | true =>
      simp
      refine callG_F hgd (by simp) ?_
      simp
end Go.Am
-- SetMove2
namespace Go.Am
open Go.Proofs
set_option maxHeartbeats 4000000
set_option maxRecDepth 100000
attribute [-simp] BitVec.toNat_or BitVec.toNat_and BitVec.toNat_ofInt
-- 37 loop.example/g00485/impl.SetMove
def k_impl_SetMove : K :=
 .seq (
  .reg none [⟨(some 3), none, .box 39 1 (.t 0)⟩,
    ⟨(some 6), none, .asn (.c (.ar true 96 2 []))⟩,
    ⟨(some 7), none, .asn (.c (.bool false))⟩]) (
 .seq (
  .seq (
   .reg none [⟨(some 8), none, .ld 1 true (.t 3)⟩,
     ⟨(some 9), none, .call 58 [(.t 8)]⟩,
     ⟨(some 10), none, .not (.t 9)⟩]) (
  .cond (.t 10) (
   .seq (
    .reg none [⟨(some 6), none, .asn (.c (.ar true 96 2 []))⟩,
      ⟨(some 7), none, .asn (.c (.bool false))⟩]) (
   .ret)) (
   .skip))) (
 .seq (
  .reg none [⟨(some 11), none, .ld 1 true (.t 3)⟩,
    ⟨(some 12), none, .mv (.t 1)⟩,
    ⟨(some 13), none, .mv (.t 2)⟩,
    ⟨(some 14), none, .call 75 [(.t 11), (.t 12), (.t 13)]⟩,
    ⟨(some 15), none, .ext 0 (.t 14)⟩,
    ⟨(some 16), none, .ext 1 (.t 14)⟩,
    ⟨(some 6), none, .asn (.t 15)⟩,
    ⟨(some 7), none, .asn (.t 16)⟩]) (
 .ret)))
def r_impl_SetMove : Nat × List RV := (17, [.t 6, .t 7])

theorem c_impl_SetMove : cmpS PT PF PA (Try.prog.funcs[37]?) = some (r_impl_SetMove.1, r_impl_SetMove.2, stripK k_impl_SetMove) := by kernel_rfl

theorem h_impl_SetMove (g : TGram) (cs : List TConf) (x : Int) (hw : wGram g < 2 ^ 31) (hl : lGram g) (hlc : lL lConf cs) (hn : wL wConf cs < 2 ^ 31) : CallsF Try.prog 37 [.agg (sGram g), .one (.ar false 0 2 (cs.map sConf)), aI x] (setR (moveG g cs x)) := by
  refine Prun c_impl_SetMove (by simp [r_impl_SetMove]) (by simp) ?_
  unfold k_impl_SetMove r_impl_SetMove
  have hgd := h_isGood g hw hl
  have hs := fun h => h_setMove g cs x (check_gram h) hw hlc hn
  have e1 : checkG g = 0 → moveG g cs x = moveO g cs x := fun h => by simp [moveG, h]
  have e2 : ¬ checkG g = 0 → moveG g cs x = none := fun h => by simp [moveG, h]
  generalize moveG g cs x = o at *
  obtain ⟨ps⟩ := g
  simp only [sGram] at hgd hs
  simp [sGram]
  refine callG_F hgd (by simp) ?_
  by_cases c : checkG ⟨ps⟩ = 0
  · have hs := hs c
    rw [e1 c]
    simp [c]
    refine callG_F hs (by simp) ?_
    cases moveO ⟨ps⟩ cs x <;> simp [setR, noSet]
  · rw [e2 c]
    simp [c, setR, noSet]
-- 35 loop.example/g00485/spec.SetMove
def k_spec_SetMove : K :=
 .seq (
  .reg none [⟨(some 3), none, .box 39 1 (.t 0)⟩,
    ⟨(some 6), none, .asn (.c (.ar true 96 2 []))⟩,
    ⟨(some 7), none, .asn (.c (.bool false))⟩]) (
 .seq (
  .reg none [⟨(some 13), none, .bls 96 2 false []⟩,
    ⟨(some 8), none, .asn (.t 13)⟩]) (
 .seq (
  .seq (
   .reg none [⟨(some 14), none, .ld 1 true (.t 3)⟩,
     ⟨(some 15), none, .call 53 [(.t 14)]⟩,
     ⟨(some 16), none, .bin .neq (.t 15) (.c (.int .i64 (0)))⟩]) (
  .cond (.t 16) (
   .seq (
    .reg none [⟨(some 17), none, .mv (.t 8)⟩,
      ⟨(some 6), none, .asn (.t 17)⟩,
      ⟨(some 7), none, .asn (.c (.bool false))⟩]) (
   .ret)) (
   .skip))) (
 .seq (
  .seq (
   .reg none [⟨(some 9), none, .asn (.c (.int .i64 (0)))⟩]) (
  .block 0 (
   .loop (some ([1, 2, 3, 8, 9], [1, 2, 3, 8, 9, 1000])) (
    .seq (
     .seq (
      .reg none [⟨(some 18), none, .mv (.t 9)⟩,
        ⟨(some 19), none, .mv (.t 1)⟩,
        ⟨(some 20), none, .len (.t 19)⟩,
        ⟨(some 21), none, .bin .lss (.t 18) (.t 20)⟩]) (
     .cond (.t 21) (
      .skip) (
      .exit 0))) (
    .seq (
     .block 1 (
      .seq (
       .drw none 8 [⟨(some 24), none, .ld 1 true (.t 3)⟩,
         ⟨(some 25), none, .mv (.t 1)⟩,
         ⟨(some 26), none, .mv (.t 9)⟩,
         ⟨(some 27), none, .iad 2 (.t 25) (.t 26)⟩,
         ⟨(some 28), none, .fad 1 (.t 27)⟩,
         ⟨(some 29), none, .ld 1 false (.t 28)⟩,
         ⟨(some 30), none, .call 55 [(.t 24), (.t 29)]⟩,
         ⟨(some 31), none, .not (.t 30)⟩]) (
      .cond (.t 31) (
       .seq (
        .reg none [⟨(some 32), none, .mv (.t 8)⟩,
          ⟨(some 6), none, .asn (.t 32)⟩,
          ⟨(some 7), none, .asn (.c (.bool false))⟩]) (
       .ret)) (
       .skip)))) (
    .reg none [⟨(some 22), none, .mv (.t 9)⟩,
      ⟨(some 23), none, .bin .add (.t 22) (.c (.int .i64 (1)))⟩,
      ⟨(some 9), none, .asn (.t 23)⟩])))))) (
 .seq (
  .reg none [⟨(some 33), none, .bld false [(.ar true 96 2 []), (.ar true 96 2 []), (.bool false)] [(2, 1, (.c (.bool true)))]⟩,
    ⟨(some 34), none, .box 89 3 (.t 33)⟩,
    ⟨(some 10), none, .asn (.t 34)⟩]) (
 .seq (
  .seq (
   .reg none [⟨(some 11), none, .asn (.c (.int .i64 (0)))⟩]) (
  .block 2 (
   .loop (some ([1, 2, 3, 8, 10, 11], [1, 2, 3, 8, 10, 11, 34, 1000])) (
    .seq (
     .seq (
      .reg none [⟨(some 35), none, .mv (.t 11)⟩,
        ⟨(some 36), none, .mv (.t 1)⟩,
        ⟨(some 37), none, .len (.t 36)⟩,
        ⟨(some 38), none, .bin .lss (.t 35) (.t 37)⟩]) (
     .cond (.t 38) (
      .skip) (
      .exit 2))) (
    .seq (
     .block 3 (
      .seq (
       .reg none [⟨(some 41), none, .mv (.t 1)⟩,
         ⟨(some 42), none, .mv (.t 11)⟩,
         ⟨(some 43), none, .iad 2 (.t 41) (.t 42)⟩,
         ⟨(some 44), none, .fad 1 (.t 43)⟩,
         ⟨(some 45), none, .ld 1 false (.t 44)⟩,
         ⟨(some 12), none, .asn (.t 45)⟩]) (
      .seq (
       .reg none [⟨(some 46), none, .mv (.t 12)⟩,
         ⟨(some 47), none, .len (.t 46)⟩,
         ⟨(some 48), none, .bin .gtr (.t 47) (.c (.int .i64 (0)))⟩,
         ⟨(some 49), none, .mv (.t 48)⟩,
         ⟨(some 50), (some (49, true)), .mv (.t 12)⟩,
         ⟨(some 51), (some (49, true)), .iad 1 (.t 50) (.c (.int .i64 (0)))⟩,
         ⟨(some 52), (some (49, true)), .ld 1 false (.t 51)⟩,
         ⟨(some 53), (some (49, true)), .mv (.t 2)⟩,
         ⟨(some 54), (some (49, true)), .bin .eql (.t 52) (.t 53)⟩,
         ⟨(some 55), none, .pick (.t 49) (.t 54) (.c (.bool false))⟩,
         ⟨(some 56), none, .mv (.t 55)⟩,
         ⟨(some 57), (some (56, true)), .mv (.t 2)⟩,
         ⟨(some 58), (some (56, true)), .bin .lss (.t 57) (.c (.int .i64 (100)))⟩,
         ⟨(some 59), none, .pick (.t 56) (.t 58) (.c (.bool false))⟩]) (
      .cond (.t 59) (
       .drw none 0 [⟨(some 60), none, .ld 1 true (.t 3)⟩,
         ⟨(some 61), none, .mv (.t 10)⟩,
         ⟨(some 62), none, .mv (.t 1)⟩,
         ⟨(some 63), none, .mv (.t 11)⟩,
         ⟨(some 64), none, .iad 2 (.t 62) (.t 63)⟩,
         ⟨(some 65), none, .fad 0 (.t 64)⟩,
         ⟨(some 66), none, .ld 1 false (.t 65)⟩,
         ⟨(some 68), none, .mv (.t 12)⟩,
         ⟨(some 69), none, .slc 1 (.t 68) (some (.c (.int .i64 (1)))) none⟩,
         ⟨(some 67), none, .bls 3 1 false []⟩,
         ⟨(some 70), none, .app 3 1 8 false (.t 67) (.t 69)⟩,
         ⟨(some 71), none, .callzr 56 [70] (.t 61) [(.t 60), (.t 61), (.t 66), (.t 70)]⟩]) (
       .skip))))) (
    .reg none [⟨(some 39), none, .mv (.t 11)⟩,
      ⟨(some 40), none, .bin .add (.t 39) (.c (.int .i64 (1)))⟩,
      ⟨(some 11), none, .asn (.t 40)⟩])))))) (
 .seq (
  .seq (
   .reg none [⟨(some 72), none, .mv (.t 10)⟩,
     ⟨(some 73), none, .nil (.t 72)⟩,
     ⟨(some 74), none, .fad 2 (.t 73)⟩,
     ⟨(some 75), none, .ld 1 false (.t 74)⟩,
     ⟨(some 76), none, .not (.t 75)⟩]) (
  .cond (.t 76) (
   .seq (
    .reg none [⟨(some 77), none, .mv (.t 8)⟩,
      ⟨(some 6), none, .asn (.t 77)⟩,
      ⟨(some 7), none, .asn (.c (.bool false))⟩]) (
   .ret)) (
   .skip))) (
 .seq (
  .reg none [⟨(some 78), none, .mv (.t 10)⟩,
    ⟨(some 79), none, .nil (.t 78)⟩,
    ⟨(some 80), none, .fad 0 (.t 79)⟩,
    ⟨(some 81), none, .ld 1 false (.t 80)⟩,
    ⟨(some 6), none, .asn (.t 81)⟩,
    ⟨(some 7), none, .asn (.c (.bool true))⟩]) (
 .ret))))))))
def r_spec_SetMove : Nat × List RV := (82, [.t 6, .t 7])

theorem c_spec_SetMove : cmpS PT PF PA (Try.prog.funcs[35]?) = some (r_spec_SetMove.1, r_spec_SetMove.2, stripK k_spec_SetMove) := by kernel_rfl

theorem h_spec_SetMove (g : TGram) (cs : List TConf) (x : Int) (hw : wGram g < 2 ^ 31) (hl : lGram g) (hn : wL wConf cs < 2 ^ 31) : CallsA Try.prog 35 [.agg (sGram g), .one (.ar false 0 2 (cs.map sConf)), aI x] [] (SetP (moveG g cs x)) := by
  have hck := h_spec_Check g hw hl
  have hlen := wL_len wConf cs
  have hkn := fun i (h : i < cs.length) => h_spec_l8Known g cs[i].row hw (by have := wL_get wConf cs i h; simp only [wConf, wL_w0] at this; omega)
  have hno : moveG g cs x = none → SetP (moveG g cs x) noSet [] := fun h => by rw [h]; exact ⟨rfl, true, rfl⟩
  have hsm : ∀ b S, moveG g cs x = some S → SetP (moveG g cs x) (.tup [(false, [cS b S]), (false, [.bool true])]) [] := fun b S h => by rw [h]; exact ⟨rfl, b, rfl⟩
  have e1 : checkG g = 0 → moveG g cs x = moveO g cs x := fun h => by simp [moveG, h]
  have e2 : ¬ checkG g = 0 → moveG g cs x = none := fun h => by simp [moveG, h]
  have hyes : knownS g.parts.length cs = true → moveO g cs x = closO g.parts (moveS cs x) := fun h => by simp [moveO, h]
  have hnot : knownS g.parts.length cs = false → moveO g cs x = none := fun h => by simp [moveO, h]
  generalize moveG g cs x = o at *
  generalize hQ : SetP o = Q at *
  simp only [noSet] at hno
  refine PrunA c_spec_SetMove (by simp [r_spec_SetMove]) (by simp) ?_
  unfold k_spec_SetMove r_spec_SetMove
  obtain ⟨ps⟩ := g
  simp only [sGram] at hck hkn
  simp only at hkn hyes hnot
  simp [sGram]
  refine callG_F hck (by simp) ?_
  by_cases c : checkG ⟨ps⟩ = 0
  case neg =>
    have hno := hno (e2 c)
    simp [c]
    exact hno
  have hg := check_gram c
  have e1 := e1 c
  rw [e1] at hno hsm
  have hkd : knownS ps.length cs = (cs.drop 0).all (fun c => rowK ps.length c.row) := by simp [knownS]
  have hknS : ∀ i (h : i < cs.length), knownS ps.length cs = true → rowK ps.length cs[i].row = true := fun i h hk => by
    simp only [knownS, List.all_eq_true] at hk
    exact hk _ (List.getElem_mem h)
  have hmo : knownS ps.length cs = true → ∀ i, ∀ d ∈ moveS (cs.take i) x, d.row.all (symOk ps.length) = true ∧ d.row.length ≤ 200 := fun hk i => moveS_ok (by
    simp only [knownS, List.all_eq_true] at hk ⊢
    exact fun c hc => hk c (List.mem_of_mem_take hc))
  simp [c]
  refine awp_loop (fun n σ => ∃ (i : Nat), i ≤ cs.length ∧ n = cs.length - i ∧ knownS ps.length cs = (cs.drop i).all (fun c => rowK ps.length c.row) ∧ σ = ⟨[(1, .one (.ar false 0 2 (cs.map sConf))), (2, aI x), (3, .one (.pt 1 3 [] 0 0)), (8, .one (.vw 96 2 8 [] 0 0)), (9, aI i)], [(3, ⟨39, 1, [[.ar false 0 1 (ps.map sISS)]]⟩), (8, ⟨96, 2, []⟩)]⟩) (cs.length) ⟨0, by omega, rfl, hkd, by simp⟩ ?_
  rintro n σ ⟨i, hi, rfl, ht, rfl⟩
  by_cases h : i < cs.length
  case pos =>
    rw [all_drop h] at ht
    have wi : IntKind.i64.wrap ((i : Int) + 1) = i + 1 := wrapI (by omega) (by omega)
    have hkn := hkn i h
    obtain ⟨c, hc⟩ : ∃ c, cs[i] = c := ⟨_, rfl⟩
    rw [hc] at hkn ht
    obtain ⟨alt, row⟩ := c
    simp only at hkn ht
    simp [h, hc, sConf]
    refine ⟨_, by simp, hkn, ?_⟩
    cases c1 : rowK ps.length row with
    | false =>
      have := hno (hnot (by rw [ht, c1]; simp))
      simp
      exact this
    | true =>
      rw [c1, Bool.true_and] at ht
      simp
      exact ⟨cs.length - (i + 1), by omega, i + 1, by omega, rfl, ht, by rw [wi]; simp⟩
  have hi' : i = cs.length := by omega
  subst hi'
  rw [all_end h] at ht
  have e3 := hyes ht
  have hmo := hmo ht
  have hknS := fun i h => hknS i h ht
  simp [sConf]
  refine awp_loop (WorkI ps (fun i => moveS (cs.take i) x) cs.length (fun i => [(1, .one (.ar false 0 2 (cs.map sConf))), (2, aI x), (3, .one (.pt 1 3 [] 0 0)), (8, .one (.vw 96 2 8 [] 0 0)), (10, .one (.pt 3 34 [] 0 0)), (11, aI i)]) [(3, ⟨39, 1, [[.ar false 0 1 (ps.map sISS)]]⟩), (8, ⟨96, 2, []⟩)] 34) cs.length ⟨0, true, true, [], [], true, by omega, rfl, .inl ⟨rfl, by simpa [moveS] using Part.nil⟩, by simp [wkO]⟩ ?_
  clear hi h
  rintro n σ ⟨i, bs, bw, S, W, ok, hi, rfl, hC, rfl⟩
  by_cases h : i < cs.length
  case neg =>
    have hi' : i = cs.length := by omega
    subst hi'
    simp only [List.take_length] at hC
    rcases hC with ⟨hb, hP⟩ | ⟨hb, hM⟩
    · have : ok = true := by simpa using hb
      subst this
      have hs := hsm bs S (by rw [e3, closO_some hP.done])
      cases bs <;> simp [wkO] <;> simp at hs <;> exact hs
    · have : ok = false := by simpa using hb
      subst this
      have hs := hno (by rw [e3, closO_none hM])
      simp [wkO]
      exact hs
  have wi : IntKind.i64.wrap ((i : Int) + 1) = i + 1 := wrapI (by omega) (by omega)
  have hms := moveS_succ cs x i h
  have hcl := h_spec_l11Close ⟨ps⟩ hg hw (moveS (cs.take (i + 1)) x) (fun c hc => (hmo (i + 1) c hc).1) 201 []
  have hkr := hknS i h
  obtain ⟨c, hc⟩ : ∃ c, cs[i] = c := ⟨_, rfl⟩
  rw [hc] at hms hkr
  obtain ⟨alt, row⟩ := c
  have hsame : mvC x ⟨alt, row⟩ = [] → Clo ps (moveS (cs.take (i + 1)) x) [] S W (!ok) := fun e => by rw [hms, e, List.append_nil]; exact hC
  have hnext : ∀ r, mvC x ⟨alt, row⟩ = [⟨alt, r⟩] → Clo ps (moveS (cs.take (i + 1)) x) ([] ++ [⟨alt, r⟩]) S W (!ok) := fun r e => by
    rw [hms, e]
    rcases hC with ⟨h1, h2⟩ | ⟨h1, h2⟩
    · exact .inl ⟨h1, h2.next _⟩
    · exact .inr ⟨h1, h2.mono fun x hx => List.mem_append_left _ hx⟩
  cases row with
  | nil =>
    have hs := hsame (by simp [mvC])
    simp [h, hc, sConf, wkO]
    exact ⟨cs.length - (i + 1), by omega, i + 1, bs, bw, S, W, ok, by omega, rfl, hs, by simp [wi, wkO, sConf]⟩
  | cons y r =>
    have n1 : (0 : Int) < r.length + 1 := by omega
    have n2 : (1 : Int) ≤ r.length + 1 := by omega
    simp only at hkr
    have hrl : r.length ≤ 199 := by simp only [rowK, Bool.and_eq_true, decide_eq_true_eq, List.length_cons] at hkr; omega
    have hb1 : r.length ≤ 4294967296 := by omega
    by_cases c2 : y = x
    · have hlt := letter_lt hkr c2
      by_cases c3 : x < 100
      · have hcall := hcl ⟨alt, r⟩ S W bs bw ok (hnext r (by simp [mvC, c2, hlt, c3])) (fun _ => by omega) (by simp; omega)
        simp only [sGram] at hcall
        simp [h, hc, sConf, wkO, n1, n2, c2, c3, hb1]
        refine CallsA.mono hcall ?_
        rintro r1 H1 ⟨bs2, bw2, S3, W3, ok3, rfl, rfl, hC3, hW3⟩
        refine ⟨_, rfl, rfl, rfl, .inl rfl, by simp, ?_⟩
        simp
        exact ⟨cs.length - (i + 1), by omega, i + 1, bs2, bw2, S3, W3, ok3, by omega, rfl, hC3, by simp [wi, wkO, sConf]⟩
      · have hs := hsame (by simp [mvC, c2, hlt, c3])
        simp [h, hc, sConf, wkO, n1, n2, c2, c3]
        exact ⟨cs.length - (i + 1), by omega, i + 1, bs, bw, S, W, ok, by omega, rfl, hs, by simp [wi, wkO, sConf]⟩
    · have hs := hsame (by simp [mvC, c2])
      simp [h, hc, sConf, wkO, n1, n2, c2]
      exact ⟨cs.length - (i + 1), by omega, i + 1, bs, bw, S, W, ok, by omega, rfl, hs, by simp [wi, wkO, sConf]⟩
end Go.Am
-- Simulate
namespace Go.Am
open Go.Proofs
set_option maxHeartbeats 4000000
set_option maxRecDepth 100000
attribute [-simp] BitVec.toNat_or BitVec.toNat_and BitVec.toNat_ofInt
theorem setAlts_len' (xs : List TConf) : (setAlts xs).length ≤ xs.length := by
  have := setAltsTo_len xs (i := xs.length) (by omega)
  rwa [setAltsTo_all] at this
-- 81 loop.example/g00485/impl.Simulate$1
def k_impl_Simulate_1 : K :=
 .seq (
  .reg none [⟨(some 5), none, .asn (.c (.ar true 96 2 []))⟩,
    ⟨(some 6), none, .asn (.c (.bool false))⟩]) (
 .seq (
  .reg none [⟨(some 7), none, .ld 1 true (.t 2)⟩,
    ⟨(some 8), none, .mv (.t 0)⟩,
    ⟨(some 9), none, .mv (.t 1)⟩,
    ⟨(some 10), none, .call 75 [(.t 7), (.t 8), (.t 9)]⟩,
    ⟨(some 11), none, .ext 0 (.t 10)⟩,
    ⟨(some 12), none, .ext 1 (.t 10)⟩,
    ⟨(some 5), none, .asn (.t 11)⟩,
    ⟨(some 6), none, .asn (.t 12)⟩]) (
 .ret))
def r_impl_Simulate_1 : Nat × List RV := (13, [.t 5, .t 6])

theorem c_impl_Simulate_1 : cmpS PT PF PA (Try.prog.funcs[81]?) = some (r_impl_Simulate_1.1, r_impl_Simulate_1.2, stripK k_impl_Simulate_1) := by kernel_rfl

theorem h_Simulate1 (g : TGram) (S : List TConf) (x : Int) (hg : gramOk g = true) (hw : wGram g < 2 ^ 31) (hS : GoodS S) : CallsF Try.prog 81 [.one (.ar false 0 2 (S.map sConf)), aI x, .one (.ps (sGram g))] (setR (moveO g S x)) := by
  refine Prun c_impl_Simulate_1 (by simp [r_impl_Simulate_1]) (by simp) ?_
  unfold k_impl_Simulate_1 r_impl_Simulate_1
  have hs := h_setMove g S x hg hw hS.l (by have := hS.w; omega)
  obtain ⟨ps⟩ := g
  simp only [sGram] at hs
  simp [sGram]
  refine callG_F hs (by simp) ?_
  cases moveO ⟨ps⟩ S x <;> simp [setR, noSet]
def SimI (g : TGram) (w : List Int) (a : Nat) (T : Option (List TConf × Nat × Bool)) (tm0 tm1 : List (Nat × A)) (n : Nat) (σ : St) : Prop := ∃ (S : List TConf) (l : Nat) (d : Bool) (ob : List (Nat × Obj)), GoodS S ∧ a + l ≤ w.length ∧ n = (if d = true then 0 else w.length + 1 - (a + l)) ∧ T = simF g w a (w.length + 1 - (a + l)) S l d ∧ (ob = [] ∨ d = true ∧ ∃ o, ob = [(19, o)]) ∧
  σ = ⟨tm0 ++ [(15, .one (.vw 96 2 15 [] 0 S.length)), (17, aI l), (18, aB d)], (15, ⟨96, 2, S.map rConf⟩) :: ob⟩
-- 80 loop.example/g00485/impl.simulate
def k_impl_simulate : K :=
 .seq (
  .reg none [⟨(some 6), none, .box 39 1 (.t 0)⟩,
    ⟨(some 12), none, .asn (.c (.int .i64 (0)))⟩,
    ⟨(some 13), none, .asn (.c (.int .i64 (0)))⟩,
    ⟨(some 14), none, .asn (.c (.bool false))⟩]) (
 .seq (
  .reg none [⟨(some 23), none, .ld 1 true (.t 6)⟩,
    ⟨(some 24), none, .mv (.t 1)⟩,
    ⟨(some 25), none, .mv (.t 2)⟩,
    ⟨(some 26), none, .call 59 [(.t 23), (.t 24), (.t 25)]⟩,
    ⟨(some 22), none, .mv (.t 26)⟩,
    ⟨(some 27), none, .ext 0 (.t 22)⟩,
    ⟨(some 28), none, .ext 1 (.t 22)⟩,
    ⟨(some 15), none, .asn (.t 27)⟩,
    ⟨(some 16), none, .asn (.t 28)⟩]) (
 .seq (
  .seq (
   .reg none [⟨(some 29), none, .mv (.t 16)⟩,
     ⟨(some 30), none, .not (.t 29)⟩]) (
  .cond (.t 30) (
   .seq (
    .reg none [⟨(some 12), none, .asn (.c (.int .i64 (-1)))⟩,
      ⟨(some 13), none, .asn (.c (.int .i64 (0)))⟩,
      ⟨(some 14), none, .asn (.c (.bool false))⟩]) (
   .ret)) (
   .skip))) (
 .seq (
  .reg none [⟨(some 17), none, .asn (.c (.int .i64 (0)))⟩,
    ⟨(some 18), none, .asn (.c (.bool false))⟩]) (
 .seq (
  .block 0 (
   .loop (some ([3, 4, 5, 15, 17, 18], [3, 4, 5, 15, 17, 18, 19, 1000])) (
    .seq (
     .seq (
      .reg none [⟨(some 31), none, .mv (.t 15)⟩,
        ⟨(some 32), none, .call 130 [(.t 31)]⟩,
        ⟨(some 33), none, .len (.t 32)⟩,
        ⟨(some 34), none, .bin .gtr (.t 33) (.c (.int .i64 (1)))⟩,
        ⟨(some 35), none, .mv (.t 34)⟩,
        ⟨(some 36), (some (35, true)), .mv (.t 4)⟩,
        ⟨(some 37), (some (35, true)), .mv (.t 17)⟩,
        ⟨(some 38), (some (35, true)), .bin .add (.t 36) (.t 37)⟩,
        ⟨(some 39), (some (35, true)), .mv (.t 3)⟩,
        ⟨(some 40), (some (35, true)), .len (.t 39)⟩,
        ⟨(some 41), (some (35, true)), .bin .lss (.t 38) (.t 40)⟩,
        ⟨(some 42), none, .pick (.t 35) (.t 41) (.c (.bool false))⟩,
        ⟨(some 43), none, .mv (.t 42)⟩,
        ⟨(some 44), (some (43, true)), .mv (.t 18)⟩,
        ⟨(some 45), (some (43, true)), .not (.t 44)⟩,
        ⟨(some 46), none, .pick (.t 43) (.t 45) (.c (.bool false))⟩]) (
     .cond (.t 46) (
      .skip) (
      .exit 0))) (
    .block 1 (
     .seq (
      .reg none [⟨(some 48), none, .mv (.t 5)⟩,
        ⟨(some 49), none, .mv (.t 15)⟩,
        ⟨(some 50), none, .mv (.t 3)⟩,
        ⟨(some 51), none, .mv (.t 4)⟩,
        ⟨(some 52), none, .mv (.t 17)⟩,
        ⟨(some 53), none, .bin .add (.t 51) (.t 52)⟩,
        ⟨(some 54), none, .iad 1 (.t 50) (.t 53)⟩,
        ⟨(some 55), none, .ld 1 false (.t 54)⟩,
        ⟨(some 56), none, .callv (.t 48) [(.t 49), (.t 55)]⟩,
        ⟨(some 47), none, .mv (.t 56)⟩,
        ⟨(some 57), none, .ext 0 (.t 47)⟩,
        ⟨(some 58), none, .ext 1 (.t 47)⟩,
        ⟨(some 19), none, .asn (.t 57)⟩,
        ⟨(some 20), none, .asn (.t 58)⟩]) (
     .seq (
      .seq (
       .reg none [⟨(some 59), none, .mv (.t 20)⟩,
         ⟨(some 60), none, .not (.t 59)⟩]) (
      .cond (.t 60) (
       .seq (
        .reg none [⟨(some 12), none, .asn (.c (.int .i64 (-1)))⟩,
          ⟨(some 13), none, .asn (.c (.int .i64 (0)))⟩,
          ⟨(some 14), none, .asn (.c (.bool false))⟩]) (
       .ret)) (
       .skip))) (
     .seq (
      .reg none [⟨(some 61), none, .mv (.t 17)⟩,
        ⟨(some 62), none, .bin .add (.t 61) (.c (.int .i64 (1)))⟩,
        ⟨(some 17), none, .asn (.t 62)⟩]) (
     .seq (
      .reg none [⟨(some 63), none, .mv (.t 19)⟩,
        ⟨(some 64), none, .len (.t 63)⟩,
        ⟨(some 65), none, .bin .eql (.t 64) (.c (.int .i64 (0)))⟩,
        ⟨(some 18), none, .asn (.t 65)⟩]) (
     .seq (
      .reg none [⟨(some 66), none, .mv (.t 18)⟩,
        ⟨(some 67), none, .not (.t 66)⟩]) (
     .cond (.t 67) (
      .reg none [⟨(some 68), none, .mv (.t 19)⟩,
        ⟨(some 15), none, .asn (.t 68)⟩]) (
      .skip))))))))))) (
 .seq (
  .seq (
   .reg none [⟨(some 69), none, .mv (.t 4)⟩,
     ⟨(some 70), none, .mv (.t 17)⟩,
     ⟨(some 71), none, .bin .add (.t 69) (.t 70)⟩,
     ⟨(some 72), none, .mv (.t 3)⟩,
     ⟨(some 73), none, .len (.t 72)⟩,
     ⟨(some 74), none, .bin .eql (.t 71) (.t 73)⟩,
     ⟨(some 75), none, .mv (.t 74)⟩,
     ⟨(some 76), (some (75, true)), .mv (.t 18)⟩,
     ⟨(some 77), (some (75, true)), .not (.t 76)⟩,
     ⟨(some 78), none, .pick (.t 75) (.t 77) (.c (.bool false))⟩]) (
  .cond (.t 78) (
   .seq (
    .reg none [⟨(some 79), none, .mv (.t 15)⟩,
      ⟨(some 80), none, .call 131 [(.t 79), (.c (.bool true))]⟩,
      ⟨(some 21), none, .asn (.t 80)⟩]) (
   .seq (
    .reg none [⟨(some 81), none, .mv (.t 21)⟩,
      ⟨(some 82), none, .bin .geq (.t 81) (.c (.int .i64 (0)))⟩]) (
   .cond (.t 82) (
    .seq (
     .reg none [⟨(some 83), none, .mv (.t 21)⟩,
       ⟨(some 84), none, .mv (.t 17)⟩,
       ⟨(some 12), none, .asn (.t 83)⟩,
       ⟨(some 13), none, .asn (.t 84)⟩,
       ⟨(some 14), none, .asn (.c (.bool true))⟩]) (
    .ret)) (
    .skip)))) (
   .skip))) (
 .seq (
  .reg none [⟨(some 85), none, .mv (.t 15)⟩,
    ⟨(some 86), none, .call 131 [(.t 85), (.c (.bool false))]⟩,
    ⟨(some 87), none, .mv (.t 17)⟩,
    ⟨(some 12), none, .asn (.t 86)⟩,
    ⟨(some 13), none, .asn (.t 87)⟩,
    ⟨(some 14), none, .asn (.c (.bool true))⟩]) (
 .ret)))))))
def r_impl_simulate : Nat × List RV := (88, [.t 12, .t 13, .t 14])

theorem c_impl_simulate : cmpS PT PF PA (Try.prog.funcs[80]?) = some (r_impl_simulate.1, r_impl_simulate.2, stripK k_impl_simulate) := by kernel_rfl

theorem h_simulate (g : TGram) (k : Int) (rest w : List Int) (a : Nat) (hg : checkG g = 0) (hw : wGram g < 2 ^ 31) (hr : lL l0 rest) (ha : a ≤ w.length) (hwl : w.length ≤ 10) :
    CallsF Try.prog 80 [.agg (sGram g), aI k, .one (.ar false 0 1 (rest.map rI)), .one (.ar false 0 1 (w.map rI)), aI a, .one (.fn 81 [.ps (sGram g)])] (match startG g k rest with
    | none => resS w a none
    | some S => resS w a (simF g w a (w.length + 1 - a) S 0 false)) := by
  refine Prun c_impl_simulate (by simp [r_impl_simulate]) (by simp) ?_
  unfold k_impl_simulate r_impl_simulate
  have hss := h_setStart g k rest (check_gram hg) hw hr
  have hsg := @startG_good g k rest
  have e1 : startG g k rest = startO g k rest := by simp [startG, hg]
  have hS1 := fun S x => h_Simulate1 g S x (check_gram hg) hw
  have hmo : ∀ S x, moveG g S x = moveO g S x := fun S x => by simp [moveG, hg]
  have hstop := fun S l d => @simF_stop g w a (w.length + 1 - (a + l)) S l d
  have hstep := fun l S => @simF_step g w a l S
  have hmg := @moveG_good g
  have hok := PfnOk 81 (by kernel_rfl)
  rw [← e1] at hss
  simp only [hmo] at hstep hmg
  generalize startG g k rest = o at *
  obtain ⟨ps⟩ := g
  simp only [sGram] at hss hS1
  simp [sGram]
  refine callG_F hss (fun _ => setR_noSh _) ?_
  cases o with
  | none => simp [setR, noSet, resS]
  | some S0 =>
  have hS0 := (hsg rfl).2
  simp [setR]
  generalize hT : simF ⟨ps⟩ w a (w.length + 1 - a) S0 0 false = T
  refine awp_loop (SimI ⟨ps⟩ w a T [(3, .one (.ar false 0 1 (w.map rI))), (4, aI a), (5, .one (.fn 81 [.ps [.ar false 0 1 (ps.map sISS)]]))] []) (w.length + 1 - a) ⟨S0, 0, false, [], hS0, by omega, by simp, by simpa using hT.symm, .inl rfl, by simp⟩ ?_
  clear hT
  rintro n σ ⟨S, l, d, ob, hS, hal, rfl, ht, hob, rfl⟩
  have hsa := h_impl_SetAlts S (by have := hS.len; omega)
  have hla := fun b => h_leastAlt S b (by have := hS.len; omega)
  have hsl := setAlts_len' S
  have hlen := hS.len
  have w1 : IntKind.i64.wrap ((a : Int) + l) = a + l := wrapI (by omega) (by omega)
  have w2 : IntKind.i64.wrap ((l : Int) + 1) = l + 1 := wrapI (by omega) (by omega)
  have hpk := fun b => pick_eq b hS.alt
  have hst := hstop S l d
  have hsp := hstep l S
  by_cases hc : d = false ∧ 1 < (setAlts S).length ∧ a + l < w.length
  case neg =>
    have hTe := ht.trans (hst hc)
    subst hTe
    simp only [resS, ← hpk, pickB]
    have hl1 := hla true
    have hl2 := hla false
    generalize leastS true S = A1 at *
    generalize leastS false S = A2 at *
    clear hst hsp hla hpk hsg hS1 hmo hmg hstep hstop hss
    rcases hob with rfl | ⟨rfl, o, rfl⟩ <;> by_cases c1 : (1 : Int) < (setAlts S).length <;> by_cases c3 : (a : Int) + l < w.length <;> by_cases c4 : (a : Int) + l = w.length <;> (try cases d) <;> by_cases c5 : 0 ≤ A1
    all_goals first
      | (exfalso; omega)
      | (exfalso; exact hc ⟨rfl, by omega, by omega⟩)
      | (have c4n : a + l = w.length := by omega
         simp only [eq_true c4n]
         simp [c5]
         refine callG_F hsa (by simp) ?_
         have w1' : IntKind.i64.wrap (w.length : Int) = w.length := wrapI (by omega) (by omega)
         simp [c1, w1', c4]
         first
           | (refine callG_F hl1 (by simp) ?_
              simp [c5]
              try (refine callG_F hl2 (by simp) ?_
                   simp))
           | (refine callG_F hl2 (by simp) ?_
              simp))
      | (have c4n : ¬ a + l = w.length := by omega
         simp only [eq_false c4n]
         simp [c5]
         refine callG_F hsa (by simp) ?_
         simp [c1, w1, c3, c4]
         refine callG_F hl2 (by simp) ?_
         simp)
  obtain ⟨rfl, c1n, c3n⟩ := hc
  have c1 : (1 : Int) < (setAlts S).length := by omega
  have c3 : (a : Int) + l < w.length := by omega
  have hob : ob = [] := hob.elim id fun h => by simp at h
  subst hob
  have ht := ht.trans (hsp c1n c3n)
  have hcall := hS1 S w[a + l] hS
  have hmg : ∀ N, moveO ⟨ps⟩ S w[a + l] = some N → N ≠ [] → GoodS N := fun N hN => hmg hS hN
  have ea : (a : Int) + l = ((a + l : Nat) : Int) := by omega
  clear hst hsp hla hpk hsg hS1 hmo hstep hstop hss
  simp
  refine callG_F hsa (by simp) ?_
  have hget : w[a + l]? = some w[a + l] := List.getElem?_eq_getElem c3n
  generalize hwx : w[a + l] = x at *
  have n0 : (0 : Int) ≤ a + l := by omega
  have e0 : ((a : Int) + l).toNat = a + l := by omega
  simp [c1, w1, c3, n0, e0, hget, callVK_c, hok]
  refine callSG_F hcall (fun _ => setR_noSh _) ?_
  generalize moveO ⟨ps⟩ S x = o2 at *
  cases o2 with
  | none => simp [setR, noSet, resS, ht]
  | some N =>
    simp only at ht
    by_cases hN : N = []
    · subst hN
      simp only [if_true, decide_true] at ht
      simp [setR, w2]
      exact ⟨0, by omega, S, l + 1, true, [(19, ⟨96, 2, []⟩)], hS, by omega, by simp, ht, .inr ⟨rfl, _, rfl⟩, by simp [w2]⟩
    · have hNl : ¬ N.length = 0 := fun h => hN (List.eq_nil_of_length_eq_zero h)
      have hNl' : ¬ (N.length : Int) = 0 := by omega
      simp only [hN, if_false, decide_false] at ht
      simp [setR, hN, hNl']
      exact ⟨w.length + 1 - (a + (l + 1)), by omega, N, l + 1, false, [], hmg N rfl hN, by omega, by simp, ht, .inl rfl, by simp [w2]⟩
-- 39 loop.example/g00485/impl.Simulate
def k_impl_Simulate : K :=
 .seq (
  .reg none [⟨(some 5), none, .boxs 1 (.t 0)⟩,
    ⟨(some 10), none, .asn (.c (.int .i64 (0)))⟩,
    ⟨(some 11), none, .asn (.c (.int .i64 (0)))⟩,
    ⟨(some 12), none, .asn (.c (.bool false))⟩]) (
 .seq (
  .seq (
   .reg none [⟨(some 13), none, .ld 1 true (.t 5)⟩,
     ⟨(some 14), none, .mv (.t 3)⟩,
     ⟨(some 15), none, .mv (.t 4)⟩,
     ⟨(some 16), none, .call 79 [(.t 13), (.t 14), (.t 15)]⟩,
     ⟨(some 17), none, .not (.t 16)⟩]) (
  .cond (.t 17) (
   .seq (
    .reg none [⟨(some 10), none, .asn (.c (.int .i64 (-1)))⟩,
      ⟨(some 11), none, .asn (.c (.int .i64 (0)))⟩,
      ⟨(some 12), none, .asn (.c (.bool false))⟩]) (
   .ret)) (
   .skip))) (
 .seq (
  .reg none [⟨(some 18), none, .ld 1 true (.t 5)⟩,
    ⟨(some 19), none, .mv (.t 1)⟩,
    ⟨(some 20), none, .mv (.t 2)⟩,
    ⟨(some 21), none, .mv (.t 3)⟩,
    ⟨(some 22), none, .mv (.t 4)⟩,
    ⟨(some 23), none, .mkf 81 [(.t 5)]⟩,
    ⟨(some 24), none, .calln 80 [5] [(.t 18), (.t 19), (.t 20), (.t 21), (.t 22), (.t 23)]⟩,
    ⟨(some 25), none, .ext 0 (.t 24)⟩,
    ⟨(some 26), none, .ext 1 (.t 24)⟩,
    ⟨(some 27), none, .ext 2 (.t 24)⟩,
    ⟨(some 10), none, .asn (.t 25)⟩,
    ⟨(some 11), none, .asn (.t 26)⟩,
    ⟨(some 12), none, .asn (.t 27)⟩]) (
 .ret)))
def r_impl_Simulate : Nat × List RV := (28, [.t 10, .t 11, .t 12])

theorem c_impl_Simulate : cmpS PT PF PB (Try.prog.funcs[39]?) = some (r_impl_Simulate.1, r_impl_Simulate.2, stripK k_impl_Simulate) := by kernel_rfl

theorem h_impl_Simulate (g : TGram) (k : Int) (rest w : List Int) (a : Int) (hw : wGram g < 2 ^ 31) (hl : lGram g) (hr : lL l0 rest) (hwl : w.length < 2 ^ 40) :
    CallsF Try.prog 39 [.agg (sGram g), aI k, .one (.ar false 0 1 (rest.map rI)), .one (.ar false 0 1 (w.map rI)), aI a] (simR g k rest w a) := by
  refine PrunBF c_impl_Simulate (by simp [r_impl_Simulate]) (by simp) ?_
  unfold k_impl_Simulate r_impl_Simulate
  have hcl := h_canLook g w a hw hl hwl
  have hsm := fun h1 h2 h3 => h_simulate g k rest w a.toNat h1 hw hr h2 h3
  have hck : ∀ S, startG g k rest = some S → checkG g = 0 := fun S h => (startG_good h).1
  unfold simR
  generalize startG g k rest = o at *
  obtain ⟨ps⟩ := g
  simp only [sGram] at hcl hsm
  simp [sGram]
  refine callG_F hcl (by simp) ?_
  cases c1 : inputOk w with
  | false => simp [resS]
  | true =>
  cases c2 : inr a 0 w.length with
  | false => simp [resS]
  | true =>
  by_cases c3 : checkG ⟨ps⟩ = 0
  case neg =>
    cases o with
    | none => simp [c3, resS]
    | some S => exact absurd (hck S rfl) c3
  rw [inr_iff] at c2
  have hlen : w.length ≤ 10 := by simp only [inputOk, Bool.and_eq_true, decide_eq_true_eq] at c1; exact c1.1
  have hsm := hsm c3 (by omega) hlen
  have ea : ((a.toNat : Nat) : Int) = a := by omega
  rw [ea] at hsm
  simp [c3]
  cases o with
  | none =>
    refine callNG_F (os := []) (os' := []) hsm (by simp [sameN]) (by simp [hobs, noShOb, resS]) ?_
    simp [resS, pushN]
  | some S =>
    simp only at hsm ⊢
    generalize simF ⟨ps⟩ w a.toNat (w.length + 1 - a.toNat) S 0 false = q at *
    cases q with
    | none =>
      refine callNG_F (os := []) (os' := []) hsm (by simp [sameN]) (by simp [hobs, noShOb, resS]) ?_
      simp [resS, pushN]
    | some q =>
      obtain ⟨S2, l, d⟩ := q
      refine callNG_F (os := []) (os' := []) hsm (by simp [sameN]) (by simp [hobs, noShOb, resS]) ?_
      simp [resS, pushN]
end Go.Am
-- Simulate2
namespace Go.Am
open Go.Proofs
set_option maxHeartbeats 4000000
set_option maxRecDepth 100000
attribute [-simp] BitVec.toNat_or BitVec.toNat_and BitVec.toNat_ofInt
def SimJ (g : TGram) (w : List Int) (a : Nat) (T : Option (List TConf × Nat × Bool)) (tm0 : List (Nat × A)) (ob0 : List (Nat × Obj)) (n : Nat) (σ : St) : Prop := ∃ (S : List TConf) (l : Nat) (d : Bool), GoodS S ∧ a + l ≤ w.length ∧ n = (if d = true then 0 else w.length + 1 - (a + l)) ∧ T = simF g w a (w.length + 1 - (a + l)) S l d ∧
  σ = ⟨tm0 ++ [(13, .one (.ar false 0 2 (S.map sConf))), (15, aI l), (16, aB d)], ob0⟩
theorem setAlts_len2 (xs : List TConf) : (setAlts xs).length ≤ xs.length := by
  have := setAltsTo_len xs (i := xs.length) (by omega)
  rwa [setAltsTo_all] at this
-- 38 loop.example/g00485/spec.Simulate
def k_spec_Simulate : K :=
 .seq (
  .reg none [⟨(some 5), none, .box 39 1 (.t 0)⟩,
    ⟨(some 10), none, .asf (.c (.int .i64 (0)))⟩,
    ⟨(some 11), none, .asf (.c (.int .i64 (0)))⟩,
    ⟨(some 12), none, .asf (.c (.bool false))⟩]) (
 .seq (
  .reg none [⟨(some 20), none, .ld 1 true (.t 5)⟩,
    ⟨(some 21), none, .mv (.t 1)⟩,
    ⟨(some 22), none, .mv (.t 2)⟩,
    ⟨(some 23), none, .callz 16 [20, 22] [(.t 20), (.t 21), (.t 22)]⟩,
    ⟨(some 19), none, .mv (.t 23)⟩,
    ⟨(some 24), none, .ext 0 (.t 19)⟩,
    ⟨(some 25), none, .ext 1 (.t 19)⟩,
    ⟨(some 13), none, .asf (.t 24)⟩,
    ⟨(some 14), none, .asf (.t 25)⟩]) (
 .seq (
  .seq (
   .reg none [⟨(some 26), none, .mv (.t 14)⟩,
     ⟨(some 27), none, .not (.t 26)⟩,
     ⟨(some 28), none, .mv (.t 27)⟩,
     ⟨(some 29), (some (28, false)), .mv (.t 3)⟩,
     ⟨(some 30), (some (28, false)), .call 76 [(.t 29)]⟩,
     ⟨(some 31), (some (28, false)), .not (.t 30)⟩,
     ⟨(some 32), none, .pick (.t 28) (.c (.bool true)) (.t 31)⟩,
     ⟨(some 33), none, .mv (.t 32)⟩,
     ⟨(some 34), (some (33, false)), .mv (.t 4)⟩,
     ⟨(some 35), (some (33, false)), .mv (.t 3)⟩,
     ⟨(some 36), (some (33, false)), .len (.t 35)⟩,
     ⟨(some 37), (some (33, false)), .call 54 [(.t 34), (.c (.int .i64 (0))), (.t 36)]⟩,
     ⟨(some 38), (some (33, false)), .not (.t 37)⟩,
     ⟨(some 39), none, .pick (.t 33) (.c (.bool true)) (.t 38)⟩]) (
  .cond (.t 39) (
   .seq (
    .reg none [⟨(some 10), none, .asf (.c (.int .i64 (-1)))⟩,
      ⟨(some 11), none, .asf (.c (.int .i64 (0)))⟩,
      ⟨(some 12), none, .asf (.c (.bool false))⟩]) (
   .ret)) (
   .skip))) (
 .seq (
  .reg none [⟨(some 15), none, .asf (.c (.int .i64 (0)))⟩]) (
 .seq (
  .reg none [⟨(some 16), none, .asf (.c (.bool false))⟩]) (
 .seq (
  .block 0 (
   .loop (some ([3, 4, 5, 13, 15, 16], [3, 4, 5, 1000])) (
    .seq (
     .seq (
      .reg none [⟨(some 40), none, .mv (.t 16)⟩,
        ⟨(some 41), none, .not (.t 40)⟩,
        ⟨(some 42), none, .mv (.t 41)⟩,
        ⟨(some 43), (some (42, true)), .mv (.t 13)⟩,
        ⟨(some 44), (some (42, true)), .callf 77 [(.t 43)]⟩,
        ⟨(some 45), (some (42, true)), .len (.t 44)⟩,
        ⟨(some 46), (some (42, true)), .bin .gtr (.t 45) (.c (.int .i64 (1)))⟩,
        ⟨(some 47), none, .pick (.t 42) (.t 46) (.c (.bool false))⟩,
        ⟨(some 48), none, .mv (.t 47)⟩,
        ⟨(some 49), (some (48, true)), .mv (.t 4)⟩,
        ⟨(some 50), (some (48, true)), .mv (.t 15)⟩,
        ⟨(some 51), (some (48, true)), .bin .add (.t 49) (.t 50)⟩,
        ⟨(some 52), (some (48, true)), .mv (.t 3)⟩,
        ⟨(some 53), (some (48, true)), .len (.t 52)⟩,
        ⟨(some 54), (some (48, true)), .bin .lss (.t 51) (.t 53)⟩,
        ⟨(some 55), none, .pick (.t 48) (.t 54) (.c (.bool false))⟩]) (
     .cond (.t 55) (
      .skip) (
      .exit 0))) (
    .block 1 (
     .seq (
      .drw none 0 [⟨(some 57), none, .ld 1 true (.t 5)⟩,
        ⟨(some 58), none, .mv (.t 13)⟩,
        ⟨(some 59), none, .mv (.t 3)⟩,
        ⟨(some 60), none, .mv (.t 4)⟩,
        ⟨(some 61), none, .mv (.t 15)⟩,
        ⟨(some 62), none, .bin .add (.t 60) (.t 61)⟩,
        ⟨(some 63), none, .iad 1 (.t 59) (.t 62)⟩,
        ⟨(some 64), none, .ld 1 false (.t 63)⟩,
        ⟨(some 65), none, .callz 35 [57, 58] [(.t 57), (.t 58), (.t 64)]⟩,
        ⟨(some 56), none, .mv (.t 65)⟩,
        ⟨(some 66), none, .ext 0 (.t 56)⟩,
        ⟨(some 67), none, .ext 1 (.t 56)⟩,
        ⟨(some 17), none, .asf (.t 66)⟩,
        ⟨(some 18), none, .asf (.t 67)⟩]) (
     .seq (
      .seq (
       .reg none [⟨(some 68), none, .mv (.t 18)⟩,
         ⟨(some 69), none, .not (.t 68)⟩]) (
      .cond (.t 69) (
       .seq (
        .reg none [⟨(some 10), none, .asf (.c (.int .i64 (-1)))⟩,
          ⟨(some 11), none, .asf (.c (.int .i64 (0)))⟩,
          ⟨(some 12), none, .asf (.c (.bool false))⟩]) (
       .ret)) (
       .skip))) (
     .seq (
      .reg none [⟨(some 70), none, .mv (.t 15)⟩,
        ⟨(some 71), none, .bin .add (.t 70) (.c (.int .i64 (1)))⟩,
        ⟨(some 15), none, .asf (.t 71)⟩]) (
     .seq (
      .reg none [⟨(some 72), none, .mv (.t 17)⟩,
        ⟨(some 73), none, .len (.t 72)⟩,
        ⟨(some 74), none, .bin .eql (.t 73) (.c (.int .i64 (0)))⟩,
        ⟨(some 16), none, .asf (.t 74)⟩]) (
     .seq (
      .reg none [⟨(some 75), none, .mv (.t 16)⟩,
        ⟨(some 76), none, .not (.t 75)⟩]) (
     .cond (.t 76) (
      .reg none [⟨(some 77), none, .mv (.t 17)⟩,
        ⟨(some 13), none, .asf (.t 77)⟩]) (
      .skip))))))))))) (
 .seq (
  .reg none [⟨(some 78), none, .mv (.t 13)⟩,
    ⟨(some 79), none, .mv (.t 16)⟩,
    ⟨(some 80), none, .not (.t 79)⟩,
    ⟨(some 81), none, .mv (.t 80)⟩,
    ⟨(some 82), (some (81, true)), .mv (.t 4)⟩,
    ⟨(some 83), (some (81, true)), .mv (.t 15)⟩,
    ⟨(some 84), (some (81, true)), .bin .add (.t 82) (.t 83)⟩,
    ⟨(some 85), (some (81, true)), .mv (.t 3)⟩,
    ⟨(some 86), (some (81, true)), .len (.t 85)⟩,
    ⟨(some 87), (some (81, true)), .bin .eql (.t 84) (.t 86)⟩,
    ⟨(some 88), none, .pick (.t 81) (.t 87) (.c (.bool false))⟩,
    ⟨(some 89), none, .call 78 [(.t 78), (.t 88)]⟩,
    ⟨(some 90), none, .mv (.t 15)⟩,
    ⟨(some 10), none, .asf (.t 89)⟩,
    ⟨(some 11), none, .asf (.t 90)⟩,
    ⟨(some 12), none, .asf (.c (.bool true))⟩]) (
 .ret)))))))
def r_spec_Simulate : Nat × List RV := (91, [.t 10, .t 11, .t 12])

theorem c_spec_Simulate : cmpS PT PF PD (Try.prog.funcs[38]?) = some (r_spec_Simulate.1, r_spec_Simulate.2, stripK k_spec_Simulate) := by kernel_rfl

theorem h_spec_Simulate (g : TGram) (k : Int) (rest w : List Int) (a : Int) (hw : wGram g < 2 ^ 31) (hl : lGram g) (hr : lL l0 rest) (hrl : rest.length < 2 ^ 40) (hwl : w.length < 2 ^ 40) :
    CallsF Try.prog 38 [.agg (sGram g), aI k, .one (.ar false 0 1 (rest.map rI)), .one (.ar false 0 1 (w.map rI)), aI a] (simR g k rest w a) := by
  refine PrunDF c_spec_Simulate (by simp [r_spec_Simulate]) (by simp) ?_
  unfold k_spec_Simulate r_spec_Simulate
  have hss := h_spec_SetStart g k rest hw hl hr hrl
  have hsg := @startG_good g k rest
  have hio := h_spec_InputOk w
  have hmv := fun S x (hS : GoodS S) => h_spec_SetMove g S x hw hl (by have := hS.w; omega)
  have hmg := @moveG_good g
  unfold simR
  have hstop := fun a S l d => @simF_stop g w a (w.length + 1 - (a + l)) S l d
  have hstep := fun a l S => @simF_step g w a l S
  generalize startG g k rest = o at *
  obtain ⟨ps⟩ := g
  simp only [sGram] at hss hmv
  simp [sGram]
  refine CallsA.mono hss ?_
  rintro r H ⟨rfl, b, rfl⟩
  refine ⟨rfl, by simp, ?_⟩
  cases o with
  | none => cases inputOk w <;> cases inr a 0 w.length <;> simp [setB, noSet, resS]
  | some S0 =>
  have hS0 := (hsg rfl).2
  have hbb : ∀ b, b = true ∨ b = false := fun b => by cases b <;> simp
  cases c1 : inputOk w with
  | false =>
    cases b <;> simp [setB] <;> refine callG_F hio (by simp) ?_ <;> simp [c1, resS]
  | true =>
  cases c2 : inr a 0 w.length with
  | false =>
    cases b <;> simp [setB] <;> refine callG_F hio (by simp) ?_ <;> simp [c1] <;> refine callG_F (h_spec_l1In _ _ _) (by simp) ?_ <;> simp [c2, resS]
  | true =>
  have c2' := c2
  rw [inr_iff] at c2'
  have hlen : w.length ≤ 10 := by simp only [inputOk, Bool.and_eq_true, decide_eq_true_eq] at c1; exact c1.1
  obtain ⟨A, rfl⟩ : ∃ A : Nat, a = A := ⟨a.toNat, by omega⟩
  have hA : A ≤ w.length := by omega
  have hstop := hstop A
  have hstep := hstep A
  simp only [Int.toNat_natCast]
  generalize hT : simF ⟨ps⟩ w A (w.length + 1 - A) S0 0 false = T
  simp
  cases b <;> simp [setB] <;> refine callG_F hio (by simp) ?_ <;> simp [c1] <;> refine callG_F (h_spec_l1In _ _ _) (by simp) ?_ <;> simp [c2]
  all_goals
    refine awp_loop (SimJ ⟨ps⟩ w A T [(3, .one (.ar false 0 1 (w.map rI))), (4, aI A), (5, .one (.pt 1 5 [] 0 0))] [(5, ⟨39, 1, [[.ar false 0 1 (ps.map sISS)]]⟩)]) (w.length + 1 - A) ⟨S0, 0, false, hS0, by omega, by simp, by simpa using hT.symm, by simp⟩ ?_
    rintro n σ ⟨S, l, d, hS, hal, rfl, ht, rfl⟩
    have hsa := h_spec_SetAlts S (by have := hS.len; omega)
    have hsl := setAlts_len2 S
    have hSl := hS.len
    have hpk := fun b => h_spec_l11Pick S b (by omega) (setAlts_ne hS.alt hS.ne)
    have w1 : IntKind.i64.wrap ((A : Int) + l) = A + l := wrapI (by omega) (by omega)
    have w2 : IntKind.i64.wrap ((l : Int) + 1) = l + 1 := wrapI (by omega) (by omega)
    have hst := hstop S l d
    have hsp := hstep l S
    by_cases hc : d = false ∧ 1 < (setAlts S).length ∧ A + l < w.length
    case neg =>
      have hTe := ht.trans (hst hc)
      rw [hTe]
      simp only [resS]
      have hpk := hpk (!d && decide ((A : Int) + l = w.length))
      have hdd : decide (A + l = w.length) = decide ((A : Int) + l = w.length) := decide_eq_decide.2 (by omega)
      rw [hdd]
      cases d with
      | true =>
        simp only [Bool.not_true, Bool.false_and] at hpk ⊢
        simp
        refine callG_F hpk (by simp) ?_
        simp
      | false =>
        simp only [Bool.not_false, Bool.true_and] at hpk ⊢
        generalize pickS (decide ((A : Int) + l = w.length)) S = pk at *
        by_cases c3 : (1 : Int) < (setAlts S).length
        · have c4 : ¬ (A : Int) + l < w.length := fun h => hc ⟨rfl, by omega, by omega⟩
          simp
          refine callG_F hsa (by simp) ?_
          simp [c3, w1, c4]
          refine callG_F hpk (by simp) ?_
          simp
        · simp
          refine callG_F hsa (by simp) ?_
          simp [c3, w1]
          refine callG_F hpk (by simp) ?_
          simp
    obtain ⟨rfl, c1n, c3n⟩ := hc
    have c3 : (1 : Int) < (setAlts S).length := by omega
    have c4 : (A : Int) + l < w.length := by omega
    have ht := ht.trans (hsp c1n c3n)
    have hcall := hmv S w[A + l] hS
    have hmg : ∀ N, moveG ⟨ps⟩ S w[A + l] = some N → N ≠ [] → GoodS N := fun N hN => hmg hS hN
    have hget : w[A + l]? = some w[A + l] := List.getElem?_eq_getElem c3n
    generalize hwx : w[A + l] = x at *
    have n0 : (0 : Int) ≤ A + l := by omega
    have e0 : ((A : Int) + l).toNat = A + l := by omega
    simp
    refine callG_F hsa (by simp) ?_
    simp [c3, w1, c4, n0, e0, hget]
    refine CallsA.mono hcall ?_
    rintro r H ⟨rfl, b2, rfl⟩
    refine ⟨rfl, by simp, ?_⟩
    generalize moveG ⟨ps⟩ S x = o2 at *
    cases o2 with
    | none => simp [setB, noSet, resS, ht]
    | some N =>
      simp only at ht
      by_cases hN : N = []
      · subst hN
        simp only [if_true, decide_true] at ht
        cases b2 <;> simp [setB, w2] <;> exact ⟨0, by omega, S, l + 1, true, hS, by omega, by simp, ht, by simp [w2]⟩
      · have hNl : ¬ N.length = 0 := fun h => hN (List.eq_nil_of_length_eq_zero h)
        have hNl' : ¬ (N.length : Int) = 0 := by omega
        simp only [hN, if_false, decide_false] at ht
        cases b2 <;> simp [setB, hN, hNl'] <;> exact ⟨w.length + 1 - (A + (l + 1)), by omega, N, l + 1, false, hmg N rfl hN, by omega, by simp, ht, by simp [w2]⟩
end Go.Am
-- IntSS_to
namespace Go.Am
open Go.Proofs
set_option maxHeartbeats 4000000
set_option maxRecDepth 100000
attribute [-simp] BitVec.toNat_or BitVec.toNat_and BitVec.toNat_ofInt
attribute [-simp] rConf_len sConf_len shr_rConf shr_sConf shrs_rConf shrs_sConf noSh_rConf mConf_wr mConf_n rISS_len sISS_len shr_rISS shr_sISS shrs_rISS shrs_sISS noSh_rISS rGram_len sGram_len shr_rGram shr_sGram shrs_rGram shrs_sGram noSh_rGram mGram_wr mGram_n cS_t cS_f row20_len row20_sc row20_view row20_store row20_aff row20_ref row20_noSh row20_shr row20_lend row20_take row20_drop rB_len setR_noSh
-- 111 loop.example/g00485/laws.toIntSS
def k_laws_toIntSS : K :=
 .seq (
  .reg none [⟨(some 2), none, .asn (.c (.ar true 34 1 []))⟩]) (
 .seq (
  .reg none [⟨(some 5), none, .mv (.t 0)⟩,
    ⟨(some 6), none, .len (.t 5)⟩,
    ⟨(some 7), none, .mks 34 1 24 [(.ar true 3 1 [])] (.t 6) (.t 6)⟩,
    ⟨(some 3), none, .asn (.t 7)⟩]) (
 .seq (
  .seq (
   .reg none [⟨(some 4), none, .asn (.c (.int .i64 (0)))⟩]) (
  .block 0 (
   .loop (some ([0, 3, 4], [0, 3, 4, 1000])) (
    .seq (
     .seq (
      .reg none [⟨(some 8), none, .mv (.t 4)⟩,
        ⟨(some 9), none, .mv (.t 0)⟩,
        ⟨(some 10), none, .len (.t 9)⟩,
        ⟨(some 11), none, .bin .lss (.t 8) (.t 10)⟩]) (
     .cond (.t 11) (
      .skip) (
      .exit 0))) (
    .seq (
     .block 1 (
      .reg none [⟨(some 14), none, .mv (.t 3)⟩,
        ⟨(some 15), none, .mv (.t 4)⟩,
        ⟨(some 16), none, .mv (.t 0)⟩,
        ⟨(some 17), none, .mv (.t 4)⟩,
        ⟨(some 18), none, .iad 1 (.t 16) (.t 17)⟩,
        ⟨(some 19), none, .ld 1 false (.t 18)⟩,
        ⟨(some 20), none, .call 18 [(.t 19)]⟩,
        ⟨(some 21), none, .iad 1 (.t 14) (.t 15)⟩,
        ⟨none, none, .st 1 false (.t 21) (.t 20)⟩])) (
    .reg none [⟨(some 12), none, .mv (.t 4)⟩,
      ⟨(some 13), none, .bin .add (.t 12) (.c (.int .i64 (1)))⟩,
      ⟨(some 4), none, .asn (.t 13)⟩])))))) (
 .seq (
  .reg none [⟨(some 22), none, .mv (.t 3)⟩,
    ⟨(some 2), none, .asn (.t 22)⟩]) (
 .ret))))
def r_laws_toIntSS : Nat × List RV := (23, [.t 2])

theorem c_laws_toIntSS : cmpS PT PF PA (Try.prog.funcs[111]?) = some (r_laws_toIntSS.1, r_laws_toIntSS.2, stripK k_laws_toIntSS) := by kernel_rfl

theorem h_toIntSS (xs : List (List Int)) (hx : wL (wL w0) xs < 2 ^ 31) : CallsF Try.prog 111 [.one (.ar false 0 1 (xs.map sIS))] (.one (.ar true 34 1 (xs.map rIS))) := by
  refine Prun c_laws_toIntSS (by simp [r_laws_toIntSS]) (by simp) ?_
  unfold k_laws_toIntSS r_laws_toIntSS
  have hlen := wL_len (wL w0) xs
  have hc : ((xs.length : Int) ≤ 4294967296) := by omega
  simp [hc]
  refine awp_loop (fun n σ => ∃ i : Nat, i ≤ xs.length ∧ n = xs.length - i ∧ σ = ⟨[(0, .one (.ar false 0 1 (xs.map sIS))), (3, .one (.vw 34 1 3 [] 0 xs.length)), (4, aI i)], [(3, ⟨34, 1, part rIS zIS xs i⟩)]⟩) (xs.length) ⟨0, by simp [part_zero, zIS]⟩ ?_
  rintro n σ ⟨i, hi, rfl, rfl⟩
  by_cases h : i < xs.length
  · have hw := wL_get (wL w0) xs i h
    have := part_set (r := rIS) (z := zIS) h
    simp [h, sIS]
    refine callG_F (h_toIntS xs[i] (by omega)) (by simp) ?_
    simp [h, part_get h, rIS, zIS]
    refine ⟨xs.length - (i + 1), by omega, i + 1, by omega, rfl, ?_⟩
    rw [wrapI (by omega) (by omega)]
    simp only [rIS, zIS] at this
    simp [rIS, zIS, this]
  · have : i = xs.length := by omega
    subst this
    simp [part_all]
end Go.Am
-- IntSSS_to
namespace Go.Am
open Go.Proofs
set_option maxHeartbeats 4000000
set_option maxRecDepth 100000
attribute [-simp] BitVec.toNat_or BitVec.toNat_and BitVec.toNat_ofInt
attribute [-simp] rConf_len sConf_len shr_rConf shr_sConf shrs_rConf shrs_sConf noSh_rConf mConf_wr mConf_n rGram_len sGram_len shr_rGram shr_sGram shrs_rGram shrs_sGram noSh_rGram mGram_wr mGram_n cS_t cS_f row20_len row20_sc row20_view row20_store row20_aff row20_ref row20_noSh row20_shr row20_lend row20_take row20_drop rB_len setR_noSh
-- 57 loop.example/g00485/laws.toIntSSS
def k_laws_toIntSSS : K :=
 .seq (
  .reg none [⟨(some 2), none, .asn (.c (.ar true 90 1 []))⟩]) (
 .seq (
  .reg none [⟨(some 5), none, .mv (.t 0)⟩,
    ⟨(some 6), none, .len (.t 5)⟩,
    ⟨(some 7), none, .mks 90 1 24 [(.ar true 34 1 [])] (.t 6) (.t 6)⟩,
    ⟨(some 3), none, .asn (.t 7)⟩]) (
 .seq (
  .seq (
   .reg none [⟨(some 4), none, .asn (.c (.int .i64 (0)))⟩]) (
  .block 0 (
   .loop (some ([0, 3, 4], [0, 3, 4, 1000])) (
    .seq (
     .seq (
      .reg none [⟨(some 8), none, .mv (.t 4)⟩,
        ⟨(some 9), none, .mv (.t 0)⟩,
        ⟨(some 10), none, .len (.t 9)⟩,
        ⟨(some 11), none, .bin .lss (.t 8) (.t 10)⟩]) (
     .cond (.t 11) (
      .skip) (
      .exit 0))) (
    .seq (
     .block 1 (
      .reg none [⟨(some 14), none, .mv (.t 3)⟩,
        ⟨(some 15), none, .mv (.t 4)⟩,
        ⟨(some 16), none, .mv (.t 0)⟩,
        ⟨(some 17), none, .mv (.t 4)⟩,
        ⟨(some 18), none, .iad 1 (.t 16) (.t 17)⟩,
        ⟨(some 19), none, .ld 1 false (.t 18)⟩,
        ⟨(some 20), none, .call 111 [(.t 19)]⟩,
        ⟨(some 21), none, .iad 1 (.t 14) (.t 15)⟩,
        ⟨none, none, .st 1 false (.t 21) (.t 20)⟩])) (
    .reg none [⟨(some 12), none, .mv (.t 4)⟩,
      ⟨(some 13), none, .bin .add (.t 12) (.c (.int .i64 (1)))⟩,
      ⟨(some 4), none, .asn (.t 13)⟩])))))) (
 .seq (
  .reg none [⟨(some 22), none, .mv (.t 3)⟩,
    ⟨(some 2), none, .asn (.t 22)⟩]) (
 .ret))))
def r_laws_toIntSSS : Nat × List RV := (23, [.t 2])

theorem c_laws_toIntSSS : cmpS PT PF PA (Try.prog.funcs[57]?) = some (r_laws_toIntSSS.1, r_laws_toIntSSS.2, stripK k_laws_toIntSSS) := by kernel_rfl

theorem h_toIntSSS (xs : List (List (List Int))) (hx : wL (wL (wL w0)) xs < 2 ^ 31) : CallsF Try.prog 57 [.one (.ar false 0 1 (xs.map sISS))] (.one (.ar true 90 1 (xs.map rISS))) := by
  refine Prun c_laws_toIntSSS (by simp [r_laws_toIntSSS]) (by simp) ?_
  unfold k_laws_toIntSSS r_laws_toIntSSS
  have hlen := wL_len (wL (wL w0)) xs
  have hc : ((xs.length : Int) ≤ 4294967296) := by omega
  simp [hc]
  refine awp_loop (fun n σ => ∃ i : Nat, i ≤ xs.length ∧ n = xs.length - i ∧ σ = ⟨[(0, .one (.ar false 0 1 (xs.map sISS))), (3, .one (.vw 90 1 3 [] 0 xs.length)), (4, aI i)], [(3, ⟨90, 1, part rISS zISS xs i⟩)]⟩) (xs.length) ⟨0, by simp [part_zero, zISS]⟩ ?_
  rintro n σ ⟨i, hi, rfl, rfl⟩
  by_cases h : i < xs.length
  · have hw := wL_get (wL (wL w0)) xs i h
    have := part_set (r := rISS) (z := zISS) h
    simp [h, sISS]
    refine callG_F (h_toIntSS xs[i] (by omega)) (by simp) ?_
    simp [h, part_get h, rISS, zISS]
    refine ⟨xs.length - (i + 1), by omega, i + 1, by omega, rfl, ?_⟩
    rw [wrapI (by omega) (by omega)]
    simp only [rISS, zISS] at this
    simp [rISS, zISS, this]
  · have : i = xs.length := by omega
    subst this
    simp [part_all]
end Go.Am
-- Gram_to1
namespace Go.Am
open Go.Proofs
set_option maxHeartbeats 4000000
set_option maxRecDepth 100000
attribute [-simp] BitVec.toNat_or BitVec.toNat_and BitVec.toNat_ofInt
attribute [-simp] rConf_len sConf_len shr_rConf shr_sConf shrs_rConf shrs_sConf noSh_rConf mConf_wr mConf_n cS_t cS_f row20_len row20_sc row20_view row20_store row20_aff row20_ref row20_noSh row20_shr row20_lend row20_take row20_drop rB_len setR_noSh
-- 17 loop.example/g00485/laws.toGram
def k_laws_toGram : K :=
 .seq (
  .reg none [⟨(some 1), none, .box 33 1 (.t 0)⟩,
    ⟨(some 2), none, .alc 39 1 [(.ar true 90 1 [])]⟩]) (
 .seq (
  .reg none [⟨(some 3), none, .alc 39 1 [(.ar true 90 1 [])]⟩]) (
 .seq (
  .reg none [⟨(some 4), none, .fad 0 (.t 1)⟩,
    ⟨(some 5), none, .ld 1 false (.t 4)⟩,
    ⟨(some 6), none, .call 57 [(.t 5)]⟩,
    ⟨(some 7), none, .fad 0 (.t 3)⟩,
    ⟨none, none, .st 1 false (.t 7) (.t 6)⟩]) (
 .seq (
  .reg none [⟨(some 8), none, .ld 1 true (.t 3)⟩,
    ⟨none, none, .st 1 false (.t 2) (.t 8)⟩]) (
 .ret))))
def r_laws_toGram : Nat × List RV := (9, [.c 2 1 true])

theorem c_laws_toGram : cmpS PT PF PA (Try.prog.funcs[17]?) = some (r_laws_toGram.1, r_laws_toGram.2, stripK k_laws_toGram) := by kernel_rfl

theorem h_toGram (a : TGram) (ha : wGram a < 2 ^ 31) : CallsF Try.prog 17 [.agg (sGram a)] (.agg (rGram a)) := by
  refine Prun c_laws_toGram (by simp [r_laws_toGram]) (by simp) ?_
  unfold k_laws_toGram r_laws_toGram
  simp only [wGram] at ha
  simp [sGram]
  refine callG_F (h_toIntSSS a.parts (by omega)) (by simp) ?_
  simp [rGram]
end Go.Am
-- intm
namespace Go.Am
open Go.Proofs
set_option maxHeartbeats 4000000
set_option maxRecDepth 100000
attribute [-simp] BitVec.toNat_or BitVec.toNat_and BitVec.toNat_ofInt
attribute [-simp] rConf_len sConf_len shr_rConf shr_sConf shrs_rConf shrs_sConf noSh_rConf mConf_wr mConf_n rIS_len sIS_len shr_rIS shr_sIS shrs_rIS shrs_sIS noSh_rIS rISS_len sISS_len shr_rISS shr_sISS shrs_rISS shrs_sISS noSh_rISS rGram_len sGram_len shr_rGram shr_sGram shrs_rGram shrs_sGram noSh_rGram mGram_wr mGram_n cS_t cS_f row20_len row20_sc row20_view row20_store row20_aff row20_ref row20_noSh row20_shr row20_lend row20_take row20_drop rB_len setR_noSh
-- 127 loop.example/g00485/laws.szIntS
def k_laws_szIntS : K :=
 .seq (
  .reg none [⟨(some 4), none, .asn (.c (.int .i64 (0)))⟩]) (
 .seq (
  .reg none [⟨(some 5), none, .mv (.t 1)⟩,
    ⟨(some 6), none, .mv (.t 0)⟩,
    ⟨(some 7), none, .len (.t 6)⟩,
    ⟨(some 8), none, .bin .sub (.t 5) (.t 7)⟩,
    ⟨(some 1), none, .asn (.t 8)⟩]) (
 .seq (
  .seq (
   .reg none [⟨(some 9), none, .mv (.t 1)⟩,
     ⟨(some 10), none, .bin .lss (.t 9) (.c (.int .i64 (0)))⟩]) (
  .cond (.t 10) (
   .seq (
    .reg none [⟨(some 4), none, .asn (.c (.int .i64 (-1)))⟩]) (
   .ret)) (
   .skip))) (
 .seq (
  .reg none [⟨(some 11), none, .mv (.t 1)⟩,
    ⟨(some 4), none, .asn (.t 11)⟩]) (
 .ret))))
def r_laws_szIntS : Nat × List RV := (12, [.t 4])

theorem c_laws_szIntS : cmpS PT PF PA (Try.prog.funcs[127]?) = some (r_laws_szIntS.1, r_laws_szIntS.2, stripK k_laws_szIntS) := by kernel_rfl

theorem h_szIntS (xs : List Int) (left : Int) (h : lL l0 xs) (h2 : 0 ≤ left) (h3 : left < 2 ^ 40) : CallsF Try.prog 127 [.one (.ar false 0 1 (xs.map rI)), aI left] (aI (lft left (wL w0 xs))) := by
  refine Prun c_laws_szIntS (by simp [r_laws_szIntS]) (by simp) ?_
  unfold k_laws_szIntS r_laws_szIntS
  have h := h.1
  rw [wL_w0, lft]
  have hw : IntKind.i64.wrap (left - xs.length) = left - xs.length := wrapI (by omega) (by omega)
  by_cases h : left - xs.length < 0
  · simp [hw, h]
  · simp [hw, h]
end Go.Am
-- IntSS_sz
namespace Go.Am
open Go.Proofs
set_option maxHeartbeats 4000000
set_option maxRecDepth 100000
attribute [-simp] BitVec.toNat_or BitVec.toNat_and BitVec.toNat_ofInt
attribute [-simp] rConf_len sConf_len shr_rConf shr_sConf shrs_rConf shrs_sConf noSh_rConf mConf_wr mConf_n rISS_len sISS_len shr_rISS shr_sISS shrs_rISS shrs_sISS noSh_rISS rGram_len sGram_len shr_rGram shr_sGram shrs_rGram shrs_sGram noSh_rGram mGram_wr mGram_n cS_t cS_f row20_len row20_sc row20_view row20_store row20_aff row20_ref row20_noSh row20_shr row20_lend row20_take row20_drop rB_len setR_noSh
-- 104 loop.example/g00485/laws.szIntSS
def k_laws_szIntSS : K :=
 .seq (
  .reg none [⟨(some 4), none, .asn (.c (.int .i64 (0)))⟩]) (
 .seq (
  .reg none [⟨(some 6), none, .mv (.t 1)⟩,
    ⟨(some 7), none, .mv (.t 0)⟩,
    ⟨(some 8), none, .len (.t 7)⟩,
    ⟨(some 9), none, .bin .sub (.t 6) (.t 8)⟩,
    ⟨(some 1), none, .asn (.t 9)⟩]) (
 .seq (
  .seq (
   .reg none [⟨(some 10), none, .mv (.t 1)⟩,
     ⟨(some 11), none, .bin .lss (.t 10) (.c (.int .i64 (0)))⟩]) (
  .cond (.t 11) (
   .seq (
    .reg none [⟨(some 4), none, .asn (.c (.int .i64 (-1)))⟩]) (
   .ret)) (
   .skip))) (
 .seq (
  .seq (
   .reg none [⟨(some 5), none, .asn (.c (.int .i64 (0)))⟩]) (
  .block 0 (
   .loop (some ([0, 1, 5], [0, 1, 5, 1000])) (
    .seq (
     .seq (
      .reg none [⟨(some 12), none, .mv (.t 5)⟩,
        ⟨(some 13), none, .mv (.t 0)⟩,
        ⟨(some 14), none, .len (.t 13)⟩,
        ⟨(some 15), none, .bin .lss (.t 12) (.t 14)⟩]) (
     .cond (.t 15) (
      .skip) (
      .exit 0))) (
    .seq (
     .block 1 (
      .seq (
       .reg none [⟨(some 18), none, .mv (.t 0)⟩,
         ⟨(some 19), none, .mv (.t 5)⟩,
         ⟨(some 20), none, .iad 1 (.t 18) (.t 19)⟩,
         ⟨(some 21), none, .ld 1 false (.t 20)⟩,
         ⟨(some 22), none, .mv (.t 1)⟩,
         ⟨(some 23), none, .call 127 [(.t 21), (.t 22)]⟩,
         ⟨(some 1), none, .asn (.t 23)⟩]) (
      .seq (
       .reg none [⟨(some 24), none, .mv (.t 1)⟩,
         ⟨(some 25), none, .bin .lss (.t 24) (.c (.int .i64 (0)))⟩]) (
      .cond (.t 25) (
       .seq (
        .reg none [⟨(some 4), none, .asn (.c (.int .i64 (-1)))⟩]) (
       .ret)) (
       .skip))))) (
    .reg none [⟨(some 16), none, .mv (.t 5)⟩,
      ⟨(some 17), none, .bin .add (.t 16) (.c (.int .i64 (1)))⟩,
      ⟨(some 5), none, .asn (.t 17)⟩])))))) (
 .seq (
  .reg none [⟨(some 26), none, .mv (.t 1)⟩,
    ⟨(some 4), none, .asn (.t 26)⟩]) (
 .ret)))))
def r_laws_szIntSS : Nat × List RV := (27, [.t 4])

theorem c_laws_szIntSS : cmpS PT PF PA (Try.prog.funcs[104]?) = some (r_laws_szIntSS.1, r_laws_szIntSS.2, stripK k_laws_szIntSS) := by kernel_rfl

theorem h_szIntSS (xs : List (List Int)) (left : Int) (hl : lL (lL l0) xs) (h2 : 0 ≤ left) (h3 : left < 2 ^ 40) : CallsF Try.prog 104 [.one (.ar false 0 1 (xs.map sIS)), aI left] (aI (lft left (wL (wL w0) xs))) := by
  refine Prun c_laws_szIntSS (by simp [r_laws_szIntSS]) (by simp) ?_
  unfold k_laws_szIntSS r_laws_szIntSS
  have hlen := hl.1
  have hlw := wL_len (wL w0) xs
  have w1 : IntKind.i64.wrap (left - xs.length) = left - xs.length := wrapI (by omega) (by omega)
  by_cases h1 : left - (xs.length : Int) < 0
  · rw [lft_neg (by omega)]
    simp [w1, h1]
  simp [w1, h1]
  refine awp_loop (fun n σ => ∃ i : Nat, i ≤ xs.length ∧ n = xs.length - i ∧ (wL (wL w0) (xs.take i) : Int) - i ≤ left - xs.length ∧ σ = ⟨[(0, .one (.ar false 0 1 (xs.map sIS))), (1, aI (left - xs.length - ((wL (wL w0) (xs.take i) : Int) - i))), (5, aI i)], []⟩) (xs.length) ⟨0, by simp [wL]; omega⟩ ?_
  rintro n σ ⟨i, hi, rfl, hle, rfl⟩
  have hge := wL_len (wL w0) (xs.take i)
  rw [List.length_take, Nat.min_eq_left hi] at hge
  by_cases h : i < xs.length
  · have hst := wL_take (wL w0) h
    have hle2 := wL_take_le (wL w0) xs (i + 1)
    have hlen2 := wL_len (wL w0) (xs.drop (i + 1))
    have happ := wL_append (wL w0) (xs.take (i + 1)) (xs.drop (i + 1))
    rw [List.take_append_drop] at happ
    rw [List.length_drop] at hlen2
    simp [h, sIS]
    refine callG_F (h_szIntS xs[i] _ (hl.2 i h) (by omega) (by omega)) (by simp) ?_
    generalize hv : left - (xs.length : Int) - ((wL (wL w0) (xs.take i) : Int) - i) = v at *
    by_cases h4 : v < ((wL w0) xs[i] : Int)
    · simp only [lft_neg h4]
      rw [lft_neg (by omega)]
      simp
    · have e : lft v ((wL w0) xs[i]) = v - (wL w0) xs[i] := lft_pos (by omega)
      have n1 : ¬ v - ((wL w0) xs[i] : Int) < 0 := by omega
      simp [e, n1]
      refine ⟨xs.length - (i + 1), by omega, i + 1, by omega, rfl, by omega, ?_⟩
      rw [wrapI (by omega) (by omega)]
      simp; omega
  · have : i = xs.length := by omega
    subst this
    rw [List.take_length] at hle
    rw [lft_pos (by omega)]
    simp
    omega
end Go.Am
-- IntSSS_sz
namespace Go.Am
open Go.Proofs
set_option maxHeartbeats 4000000
set_option maxRecDepth 100000
attribute [-simp] BitVec.toNat_or BitVec.toNat_and BitVec.toNat_ofInt
attribute [-simp] rConf_len sConf_len shr_rConf shr_sConf shrs_rConf shrs_sConf noSh_rConf mConf_wr mConf_n rGram_len sGram_len shr_rGram shr_sGram shrs_rGram shrs_sGram noSh_rGram mGram_wr mGram_n cS_t cS_f row20_len row20_sc row20_view row20_store row20_aff row20_ref row20_noSh row20_shr row20_lend row20_take row20_drop rB_len setR_noSh
-- 52 loop.example/g00485/laws.szIntSSS
def k_laws_szIntSSS : K :=
 .seq (
  .reg none [⟨(some 4), none, .asn (.c (.int .i64 (0)))⟩]) (
 .seq (
  .reg none [⟨(some 6), none, .mv (.t 1)⟩,
    ⟨(some 7), none, .mv (.t 0)⟩,
    ⟨(some 8), none, .len (.t 7)⟩,
    ⟨(some 9), none, .bin .sub (.t 6) (.t 8)⟩,
    ⟨(some 1), none, .asn (.t 9)⟩]) (
 .seq (
  .seq (
   .reg none [⟨(some 10), none, .mv (.t 1)⟩,
     ⟨(some 11), none, .bin .lss (.t 10) (.c (.int .i64 (0)))⟩]) (
  .cond (.t 11) (
   .seq (
    .reg none [⟨(some 4), none, .asn (.c (.int .i64 (-1)))⟩]) (
   .ret)) (
   .skip))) (
 .seq (
  .seq (
   .reg none [⟨(some 5), none, .asn (.c (.int .i64 (0)))⟩]) (
  .block 0 (
   .loop (some ([0, 1, 5], [0, 1, 5, 1000])) (
    .seq (
     .seq (
      .reg none [⟨(some 12), none, .mv (.t 5)⟩,
        ⟨(some 13), none, .mv (.t 0)⟩,
        ⟨(some 14), none, .len (.t 13)⟩,
        ⟨(some 15), none, .bin .lss (.t 12) (.t 14)⟩]) (
     .cond (.t 15) (
      .skip) (
      .exit 0))) (
    .seq (
     .block 1 (
      .seq (
       .reg none [⟨(some 18), none, .mv (.t 0)⟩,
         ⟨(some 19), none, .mv (.t 5)⟩,
         ⟨(some 20), none, .iad 1 (.t 18) (.t 19)⟩,
         ⟨(some 21), none, .ld 1 false (.t 20)⟩,
         ⟨(some 22), none, .mv (.t 1)⟩,
         ⟨(some 23), none, .call 104 [(.t 21), (.t 22)]⟩,
         ⟨(some 1), none, .asn (.t 23)⟩]) (
      .seq (
       .reg none [⟨(some 24), none, .mv (.t 1)⟩,
         ⟨(some 25), none, .bin .lss (.t 24) (.c (.int .i64 (0)))⟩]) (
      .cond (.t 25) (
       .seq (
        .reg none [⟨(some 4), none, .asn (.c (.int .i64 (-1)))⟩]) (
       .ret)) (
       .skip))))) (
    .reg none [⟨(some 16), none, .mv (.t 5)⟩,
      ⟨(some 17), none, .bin .add (.t 16) (.c (.int .i64 (1)))⟩,
      ⟨(some 5), none, .asn (.t 17)⟩])))))) (
 .seq (
  .reg none [⟨(some 26), none, .mv (.t 1)⟩,
    ⟨(some 4), none, .asn (.t 26)⟩]) (
 .ret)))))
def r_laws_szIntSSS : Nat × List RV := (27, [.t 4])

theorem c_laws_szIntSSS : cmpS PT PF PA (Try.prog.funcs[52]?) = some (r_laws_szIntSSS.1, r_laws_szIntSSS.2, stripK k_laws_szIntSSS) := by kernel_rfl

theorem h_szIntSSS (xs : List (List (List Int))) (left : Int) (hl : lL (lL (lL l0)) xs) (h2 : 0 ≤ left) (h3 : left < 2 ^ 40) : CallsF Try.prog 52 [.one (.ar false 0 1 (xs.map sISS)), aI left] (aI (lft left (wL (wL (wL w0)) xs))) := by
  refine Prun c_laws_szIntSSS (by simp [r_laws_szIntSSS]) (by simp) ?_
  unfold k_laws_szIntSSS r_laws_szIntSSS
  have hlen := hl.1
  have hlw := wL_len (wL (wL w0)) xs
  have w1 : IntKind.i64.wrap (left - xs.length) = left - xs.length := wrapI (by omega) (by omega)
  by_cases h1 : left - (xs.length : Int) < 0
  · rw [lft_neg (by omega)]
    simp [w1, h1]
  simp [w1, h1]
  refine awp_loop (fun n σ => ∃ i : Nat, i ≤ xs.length ∧ n = xs.length - i ∧ (wL (wL (wL w0)) (xs.take i) : Int) - i ≤ left - xs.length ∧ σ = ⟨[(0, .one (.ar false 0 1 (xs.map sISS))), (1, aI (left - xs.length - ((wL (wL (wL w0)) (xs.take i) : Int) - i))), (5, aI i)], []⟩) (xs.length) ⟨0, by simp [wL]; omega⟩ ?_
  rintro n σ ⟨i, hi, rfl, hle, rfl⟩
  have hge := wL_len (wL (wL w0)) (xs.take i)
  rw [List.length_take, Nat.min_eq_left hi] at hge
  by_cases h : i < xs.length
  · have hst := wL_take (wL (wL w0)) h
    have hle2 := wL_take_le (wL (wL w0)) xs (i + 1)
    have hlen2 := wL_len (wL (wL w0)) (xs.drop (i + 1))
    have happ := wL_append (wL (wL w0)) (xs.take (i + 1)) (xs.drop (i + 1))
    rw [List.take_append_drop] at happ
    rw [List.length_drop] at hlen2
    simp [h, sISS]
    refine callG_F (h_szIntSS xs[i] _ (hl.2 i h) (by omega) (by omega)) (by simp) ?_
    generalize hv : left - (xs.length : Int) - ((wL (wL (wL w0)) (xs.take i) : Int) - i) = v at *
    by_cases h4 : v < ((wL (wL w0)) xs[i] : Int)
    · simp only [lft_neg h4]
      rw [lft_neg (by omega)]
      simp
    · have e : lft v ((wL (wL w0)) xs[i]) = v - (wL (wL w0)) xs[i] := lft_pos (by omega)
      have n1 : ¬ v - ((wL (wL w0)) xs[i] : Int) < 0 := by omega
      simp [e, n1]
      refine ⟨xs.length - (i + 1), by omega, i + 1, by omega, rfl, by omega, ?_⟩
      rw [wrapI (by omega) (by omega)]
      simp; omega
  · have : i = xs.length := by omega
    subst this
    rw [List.take_length] at hle
    rw [lft_pos (by omega)]
    simp
    omega
end Go.Am
-- Gram_sz1
namespace Go.Am
open Go.Proofs
set_option maxHeartbeats 4000000
set_option maxRecDepth 100000
attribute [-simp] BitVec.toNat_or BitVec.toNat_and BitVec.toNat_ofInt
attribute [-simp] rConf_len sConf_len shr_rConf shr_sConf shrs_rConf shrs_sConf noSh_rConf mConf_wr mConf_n cS_t cS_f row20_len row20_sc row20_view row20_store row20_aff row20_ref row20_noSh row20_shr row20_lend row20_take row20_drop rB_len setR_noSh
-- 15 loop.example/g00485/laws.szGram
def k_laws_szGram : K :=
 .seq (
  .reg none [⟨(some 2), none, .box 33 1 (.t 0)⟩,
    ⟨(some 4), none, .asn (.c (.int .i64 (0)))⟩]) (
 .seq (
  .reg none [⟨(some 5), none, .fad 0 (.t 2)⟩,
    ⟨(some 6), none, .ld 1 false (.t 5)⟩,
    ⟨(some 7), none, .mv (.t 1)⟩,
    ⟨(some 8), none, .call 52 [(.t 6), (.t 7)]⟩,
    ⟨(some 1), none, .asn (.t 8)⟩]) (
 .seq (
  .seq (
   .reg none [⟨(some 9), none, .mv (.t 1)⟩,
     ⟨(some 10), none, .bin .lss (.t 9) (.c (.int .i64 (0)))⟩]) (
  .cond (.t 10) (
   .seq (
    .reg none [⟨(some 4), none, .asn (.c (.int .i64 (-1)))⟩]) (
   .ret)) (
   .skip))) (
 .seq (
  .reg none [⟨(some 11), none, .mv (.t 1)⟩,
    ⟨(some 4), none, .asn (.t 11)⟩]) (
 .ret))))
def r_laws_szGram : Nat × List RV := (12, [.t 4])

theorem c_laws_szGram : cmpS PT PF PA (Try.prog.funcs[15]?) = some (r_laws_szGram.1, r_laws_szGram.2, stripK k_laws_szGram) := by kernel_rfl

theorem h_szGram (a : TGram) (left : Int) (h : lGram a) (h2 : 0 ≤ left) (h3 : left < 2 ^ 40) : CallsF Try.prog 15 [.agg (sGram a), aI left] (aI (lft left (wGram a))) := by
  refine Prun c_laws_szGram (by simp [r_laws_szGram]) (by simp) ?_
  unfold k_laws_szGram r_laws_szGram
  simp only [lGram] at h
  simp only [wGram]
  have hl0 := h
  simp [sGram]
  refine callG_F (h_szIntSSS a.parts (left) hl0 (by omega) (by omega)) (by simp) ?_
  by_cases g0 : left < (wL (wL (wL w0)) a.parts : Int)
  case pos => simp only [lft_neg g0]; simp; try rw [lft_neg (by omega)]
  simp only [lft_pos (show (wL (wL (wL w0)) a.parts : Int) ≤ left by omega)]
  have n0 : ¬ left - (wL (wL (wL w0)) a.parts : Int) < 0 := by omega
  simp [n0]
  try rw [lft_pos (by omega)]
  try omega
end Go.Am
-- IntSS_eq
namespace Go.Am
open Go.Proofs
set_option maxHeartbeats 4000000
set_option maxRecDepth 100000
attribute [-simp] BitVec.toNat_or BitVec.toNat_and BitVec.toNat_ofInt
attribute [-simp] rConf_len sConf_len shr_rConf shr_sConf shrs_rConf shrs_sConf noSh_rConf mConf_wr mConf_n rISS_len sISS_len shr_rISS shr_sISS shrs_rISS shrs_sISS noSh_rISS rGram_len sGram_len shr_rGram shr_sGram shrs_rGram shrs_sGram noSh_rGram mGram_wr mGram_n cS_t cS_f row20_len row20_sc row20_view row20_store row20_aff row20_ref row20_noSh row20_shr row20_lend row20_take row20_drop rB_len setR_noSh
-- 117 loop.example/g00485/laws.eqIntSS
def k_laws_eqIntSS : K :=
 .seq (
  .reg none [⟨(some 4), none, .asn (.c (.bool false))⟩]) (
 .seq (
  .seq (
   .reg none [⟨(some 6), none, .mv (.t 0)⟩,
     ⟨(some 7), none, .len (.t 6)⟩,
     ⟨(some 8), none, .mv (.t 1)⟩,
     ⟨(some 9), none, .len (.t 8)⟩,
     ⟨(some 10), none, .bin .neq (.t 7) (.t 9)⟩]) (
  .cond (.t 10) (
   .seq (
    .reg none [⟨(some 4), none, .asn (.c (.bool false))⟩]) (
   .ret)) (
   .skip))) (
 .seq (
  .seq (
   .reg none [⟨(some 5), none, .asn (.c (.int .i64 (0)))⟩]) (
  .block 0 (
   .loop (some ([0, 1, 5], [0, 1, 5, 1000])) (
    .seq (
     .seq (
      .reg none [⟨(some 11), none, .mv (.t 5)⟩,
        ⟨(some 12), none, .mv (.t 0)⟩,
        ⟨(some 13), none, .len (.t 12)⟩,
        ⟨(some 14), none, .bin .lss (.t 11) (.t 13)⟩]) (
     .cond (.t 14) (
      .skip) (
      .exit 0))) (
    .seq (
     .block 1 (
      .seq (
       .drw none 10 [⟨(some 17), none, .mv (.t 0)⟩,
         ⟨(some 18), none, .mv (.t 5)⟩,
         ⟨(some 19), none, .iad 1 (.t 17) (.t 18)⟩,
         ⟨(some 20), none, .ld 1 false (.t 19)⟩,
         ⟨(some 21), none, .mv (.t 1)⟩,
         ⟨(some 22), none, .mv (.t 5)⟩,
         ⟨(some 23), none, .iad 1 (.t 21) (.t 22)⟩,
         ⟨(some 24), none, .ld 1 false (.t 23)⟩,
         ⟨(some 25), none, .call 22 [(.t 20), (.t 24)]⟩,
         ⟨(some 26), none, .not (.t 25)⟩]) (
      .cond (.t 26) (
       .seq (
        .reg none [⟨(some 4), none, .asn (.c (.bool false))⟩]) (
       .ret)) (
       .skip)))) (
    .reg none [⟨(some 15), none, .mv (.t 5)⟩,
      ⟨(some 16), none, .bin .add (.t 15) (.c (.int .i64 (1)))⟩,
      ⟨(some 5), none, .asn (.t 16)⟩])))))) (
 .seq (
  .reg none [⟨(some 4), none, .asn (.c (.bool true))⟩]) (
 .ret))))
def r_laws_eqIntSS : Nat × List RV := (27, [.t 4])

theorem c_laws_eqIntSS : cmpS PT PF PA (Try.prog.funcs[117]?) = some (r_laws_eqIntSS.1, r_laws_eqIntSS.2, stripK k_laws_eqIntSS) := by kernel_rfl

theorem h_eqIntSS (xs : List (List Int)) (hx : wL (wL w0) xs < 2 ^ 40) : CallsF Try.prog 117 [.one (.ar false 0 1 (xs.map sIS)), .one (.ar false 0 1 (xs.map sIS))] (aB true) := by
  refine Prun c_laws_eqIntSS (by simp [r_laws_eqIntSS]) (by simp) ?_
  unfold k_laws_eqIntSS r_laws_eqIntSS
  have hlen := wL_len (wL w0) xs
  simp
  refine awp_loop (fun n σ => ∃ i : Nat, i ≤ xs.length ∧ n = xs.length - i ∧ σ = ⟨[(0, .one (.ar false 0 1 (xs.map sIS))), (1, .one (.ar false 0 1 (xs.map sIS))), (5, aI i)], []⟩) (xs.length) ⟨0, by simp⟩ ?_
  rintro n σ ⟨i, hi, rfl, rfl⟩
  by_cases h : i < xs.length
  · have hw := wL_get (wL w0) xs i h
    simp [h, sIS]
    refine ⟨_, by simp, h_eqIntS xs[i] (by omega), ?_⟩
    simp
    refine ⟨xs.length - (i + 1), by omega, i + 1, by omega, rfl, ?_⟩
    rw [wrapI (by omega) (by omega)]
    simp
  · simp [h]
end Go.Am
-- IntSSS_eq
namespace Go.Am
open Go.Proofs
set_option maxHeartbeats 4000000
set_option maxRecDepth 100000
attribute [-simp] BitVec.toNat_or BitVec.toNat_and BitVec.toNat_ofInt
attribute [-simp] rConf_len sConf_len shr_rConf shr_sConf shrs_rConf shrs_sConf noSh_rConf mConf_wr mConf_n rGram_len sGram_len shr_rGram shr_sGram shrs_rGram shrs_sGram noSh_rGram mGram_wr mGram_n cS_t cS_f row20_len row20_sc row20_view row20_store row20_aff row20_ref row20_noSh row20_shr row20_lend row20_take row20_drop rB_len setR_noSh
-- 61 loop.example/g00485/laws.eqIntSSS
def k_laws_eqIntSSS : K :=
 .seq (
  .reg none [⟨(some 4), none, .asn (.c (.bool false))⟩]) (
 .seq (
  .seq (
   .reg none [⟨(some 6), none, .mv (.t 0)⟩,
     ⟨(some 7), none, .len (.t 6)⟩,
     ⟨(some 8), none, .mv (.t 1)⟩,
     ⟨(some 9), none, .len (.t 8)⟩,
     ⟨(some 10), none, .bin .neq (.t 7) (.t 9)⟩]) (
  .cond (.t 10) (
   .seq (
    .reg none [⟨(some 4), none, .asn (.c (.bool false))⟩]) (
   .ret)) (
   .skip))) (
 .seq (
  .seq (
   .reg none [⟨(some 5), none, .asn (.c (.int .i64 (0)))⟩]) (
  .block 0 (
   .loop (some ([0, 1, 5], [0, 1, 5, 1000])) (
    .seq (
     .seq (
      .reg none [⟨(some 11), none, .mv (.t 5)⟩,
        ⟨(some 12), none, .mv (.t 0)⟩,
        ⟨(some 13), none, .len (.t 12)⟩,
        ⟨(some 14), none, .bin .lss (.t 11) (.t 13)⟩]) (
     .cond (.t 14) (
      .skip) (
      .exit 0))) (
    .seq (
     .block 1 (
      .seq (
       .drw none 10 [⟨(some 17), none, .mv (.t 0)⟩,
         ⟨(some 18), none, .mv (.t 5)⟩,
         ⟨(some 19), none, .iad 1 (.t 17) (.t 18)⟩,
         ⟨(some 20), none, .ld 1 false (.t 19)⟩,
         ⟨(some 21), none, .mv (.t 1)⟩,
         ⟨(some 22), none, .mv (.t 5)⟩,
         ⟨(some 23), none, .iad 1 (.t 21) (.t 22)⟩,
         ⟨(some 24), none, .ld 1 false (.t 23)⟩,
         ⟨(some 25), none, .call 117 [(.t 20), (.t 24)]⟩,
         ⟨(some 26), none, .not (.t 25)⟩]) (
      .cond (.t 26) (
       .seq (
        .reg none [⟨(some 4), none, .asn (.c (.bool false))⟩]) (
       .ret)) (
       .skip)))) (
    .reg none [⟨(some 15), none, .mv (.t 5)⟩,
      ⟨(some 16), none, .bin .add (.t 15) (.c (.int .i64 (1)))⟩,
      ⟨(some 5), none, .asn (.t 16)⟩])))))) (
 .seq (
  .reg none [⟨(some 4), none, .asn (.c (.bool true))⟩]) (
 .ret))))
def r_laws_eqIntSSS : Nat × List RV := (27, [.t 4])

theorem c_laws_eqIntSSS : cmpS PT PF PA (Try.prog.funcs[61]?) = some (r_laws_eqIntSSS.1, r_laws_eqIntSSS.2, stripK k_laws_eqIntSSS) := by kernel_rfl

theorem h_eqIntSSS (xs : List (List (List Int))) (hx : wL (wL (wL w0)) xs < 2 ^ 40) : CallsF Try.prog 61 [.one (.ar false 0 1 (xs.map sISS)), .one (.ar false 0 1 (xs.map sISS))] (aB true) := by
  refine Prun c_laws_eqIntSSS (by simp [r_laws_eqIntSSS]) (by simp) ?_
  unfold k_laws_eqIntSSS r_laws_eqIntSSS
  have hlen := wL_len (wL (wL w0)) xs
  simp
  refine awp_loop (fun n σ => ∃ i : Nat, i ≤ xs.length ∧ n = xs.length - i ∧ σ = ⟨[(0, .one (.ar false 0 1 (xs.map sISS))), (1, .one (.ar false 0 1 (xs.map sISS))), (5, aI i)], []⟩) (xs.length) ⟨0, by simp⟩ ?_
  rintro n σ ⟨i, hi, rfl, rfl⟩
  by_cases h : i < xs.length
  · have hw := wL_get (wL (wL w0)) xs i h
    simp [h, sISS]
    refine ⟨_, by simp, h_eqIntSS xs[i] (by omega), ?_⟩
    simp
    refine ⟨xs.length - (i + 1), by omega, i + 1, by omega, rfl, ?_⟩
    rw [wrapI (by omega) (by omega)]
    simp
  · simp [h]
end Go.Am
-- Gram_eq1
namespace Go.Am
open Go.Proofs
set_option maxHeartbeats 4000000
set_option maxRecDepth 100000
attribute [-simp] BitVec.toNat_or BitVec.toNat_and BitVec.toNat_ofInt
attribute [-simp] rConf_len sConf_len shr_rConf shr_sConf shrs_rConf shrs_sConf noSh_rConf mConf_wr mConf_n cS_t cS_f row20_len row20_sc row20_view row20_store row20_aff row20_ref row20_noSh row20_shr row20_lend row20_take row20_drop rB_len setR_noSh
-- 21 loop.example/g00485/laws.eqGram
def k_laws_eqGram : K :=
 .seq (
  .reg none [⟨(some 2), none, .box 39 1 (.t 0)⟩,
    ⟨(some 3), none, .box 39 1 (.t 1)⟩,
    ⟨(some 4), none, .asn (.c (.bool false))⟩]) (
 .seq (
  .seq (
   .reg none [⟨(some 5), none, .fad 0 (.t 2)⟩,
     ⟨(some 6), none, .ld 1 false (.t 5)⟩,
     ⟨(some 7), none, .fad 0 (.t 3)⟩,
     ⟨(some 8), none, .ld 1 false (.t 7)⟩,
     ⟨(some 9), none, .call 61 [(.t 6), (.t 8)]⟩,
     ⟨(some 10), none, .not (.t 9)⟩]) (
  .cond (.t 10) (
   .seq (
    .reg none [⟨(some 4), none, .asn (.c (.bool false))⟩]) (
   .ret)) (
   .skip))) (
 .seq (
  .reg none [⟨(some 4), none, .asn (.c (.bool true))⟩]) (
 .ret)))
def r_laws_eqGram : Nat × List RV := (11, [.t 4])

theorem c_laws_eqGram : cmpS PT PF PA (Try.prog.funcs[21]?) = some (r_laws_eqGram.1, r_laws_eqGram.2, stripK k_laws_eqGram) := by kernel_rfl

theorem h_eqGram (a : TGram) (ha : wGram a < 2 ^ 40) : CallsF Try.prog 21 [.agg (sGram a), .agg (sGram a)] (aB true) := by
  refine Prun c_laws_eqGram (by simp [r_laws_eqGram]) (by simp) ?_
  unfold k_laws_eqGram r_laws_eqGram
  simp only [wGram] at ha
  simp [sGram]
  refine callG_F (h_eqIntSSS a.parts (by omega)) (by simp) ?_
  simp
end Go.Am
-- L_Simulate
namespace Go.Am
open Go.Proofs
set_option maxHeartbeats 4000000
set_option maxRecDepth 100000
attribute [-simp] BitVec.toNat_or BitVec.toNat_and BitVec.toNat_ofInt
theorem simR_shape (g : TGram) (k : Int) (rest w : List Int) (a : Int) : ∃ (x y : Int) (b : Bool), simR g k rest w a = .tup [(false, [cI x]), (false, [cI y]), (false, [.bool b])] := by
  have h : ∀ n q, ∃ (x y : Int) (b : Bool), resS w n q = .tup [(false, [cI x]), (false, [cI y]), (false, [.bool b])] := fun n q => by
    cases q with
    | none => exact ⟨_, _, _, rfl⟩
    | some q => obtain ⟨S, l, d⟩ := q; exact ⟨_, _, _, rfl⟩
  unfold simR
  split
  · split
    · exact h _ _
    · exact h _ _
  · exact h _ _
-- 7 loop.example/g00485/laws.FnExactSimulate
def k_laws_FnExactSimulate : K :=
 .seq (
  .reg none [⟨(some 5), none, .box 33 1 (.t 0)⟩,
    ⟨(some 10), none, .asn (.c (.bool false))⟩]) (
 .seq (
  .seq (
   .reg none [⟨(some 21), none, .mv (.t 2)⟩,
     ⟨(some 22), none, .len (.t 21)⟩,
     ⟨(some 23), none, .bin .gtr (.t 22) (.c (.int .i64 (1048576)))⟩]) (
  .cond (.t 23) (
   .seq (
    .reg none [⟨(some 10), none, .asn (.c (.bool true))⟩]) (
   .ret)) (
   .skip))) (
 .seq (
  .seq (
   .reg none [⟨(some 24), none, .mv (.t 3)⟩,
     ⟨(some 25), none, .len (.t 24)⟩,
     ⟨(some 26), none, .bin .gtr (.t 25) (.c (.int .i64 (1048576)))⟩]) (
  .cond (.t 26) (
   .seq (
    .reg none [⟨(some 10), none, .asn (.c (.bool true))⟩]) (
   .ret)) (
   .skip))) (
 .seq (
  .reg none [⟨(some 11), none, .asn (.c (.int .i64 (1048576)))⟩]) (
 .seq (
  .reg none [⟨(some 27), none, .ld 1 true (.t 5)⟩,
    ⟨(some 28), none, .mv (.t 11)⟩,
    ⟨(some 29), none, .call 15 [(.t 27), (.t 28)]⟩,
    ⟨(some 11), none, .asn (.t 29)⟩]) (
 .seq (
  .seq (
   .reg none [⟨(some 30), none, .mv (.t 11)⟩,
     ⟨(some 31), none, .bin .lss (.t 30) (.c (.int .i64 (0)))⟩]) (
  .cond (.t 31) (
   .seq (
    .reg none [⟨(some 10), none, .asn (.c (.bool true))⟩]) (
   .ret)) (
   .skip))) (
 .seq (
  .reg none [⟨(some 33), none, .ld 1 true (.t 5)⟩,
    ⟨(some 34), none, .call 17 [(.t 33)]⟩,
    ⟨(some 35), none, .mv (.t 1)⟩,
    ⟨(some 36), none, .mv (.t 2)⟩,
    ⟨(some 37), none, .call 18 [(.t 36)]⟩,
    ⟨(some 38), none, .mv (.t 3)⟩,
    ⟨(some 39), none, .call 18 [(.t 38)]⟩,
    ⟨(some 40), none, .mv (.t 4)⟩,
    ⟨(some 41), none, .call 38 [(.t 34), (.t 35), (.t 37), (.t 39), (.t 40)]⟩,
    ⟨(some 32), none, .mv (.t 41)⟩,
    ⟨(some 42), none, .ext 0 (.t 32)⟩,
    ⟨(some 43), none, .ext 1 (.t 32)⟩,
    ⟨(some 44), none, .ext 2 (.t 32)⟩,
    ⟨(some 12), none, .asn (.t 42)⟩,
    ⟨(some 13), none, .asn (.t 43)⟩,
    ⟨(some 14), none, .asn (.t 44)⟩]) (
 .seq (
  .reg none [⟨(some 45), none, .ld 1 true (.t 5)⟩,
    ⟨(some 46), none, .call 17 [(.t 45)]⟩,
    ⟨(some 15), none, .alc 39 1 [(.ar true 90 1 [])]⟩,
    ⟨none, none, .st 1 false (.t 15) (.t 46)⟩]) (
 .seq (
  .reg none [⟨(some 47), none, .mv (.t 2)⟩,
    ⟨(some 48), none, .call 18 [(.t 47)]⟩,
    ⟨(some 16), none, .asn (.t 48)⟩]) (
 .seq (
  .reg none [⟨(some 49), none, .mv (.t 3)⟩,
    ⟨(some 50), none, .call 18 [(.t 49)]⟩,
    ⟨(some 17), none, .asn (.t 50)⟩]) (
 .seq (
  .reg none [⟨(some 52), none, .ld 1 true (.t 15)⟩,
    ⟨(some 53), none, .mv (.t 1)⟩,
    ⟨(some 54), none, .mv (.t 16)⟩,
    ⟨(some 55), none, .mv (.t 17)⟩,
    ⟨(some 56), none, .mv (.t 4)⟩,
    ⟨(some 57), none, .call 39 [(.t 52), (.t 53), (.t 54), (.t 55), (.t 56)]⟩,
    ⟨(some 51), none, .mv (.t 57)⟩,
    ⟨(some 58), none, .ext 0 (.t 51)⟩,
    ⟨(some 59), none, .ext 1 (.t 51)⟩,
    ⟨(some 60), none, .ext 2 (.t 51)⟩,
    ⟨(some 18), none, .asn (.t 58)⟩,
    ⟨(some 19), none, .asn (.t 59)⟩,
    ⟨(some 20), none, .asn (.t 60)⟩]) (
 .seq (
  .seq (
   .reg none [⟨(some 61), none, .mv (.t 18)⟩,
     ⟨(some 62), none, .mv (.t 12)⟩,
     ⟨(some 63), none, .bin .neq (.t 61) (.t 62)⟩,
     ⟨(some 64), none, .mv (.t 63)⟩,
     ⟨(some 65), (some (64, false)), .mv (.t 19)⟩,
     ⟨(some 66), (some (64, false)), .mv (.t 13)⟩,
     ⟨(some 67), (some (64, false)), .bin .neq (.t 65) (.t 66)⟩,
     ⟨(some 68), none, .pick (.t 64) (.c (.bool true)) (.t 67)⟩,
     ⟨(some 69), none, .mv (.t 68)⟩,
     ⟨(some 70), (some (69, false)), .mv (.t 20)⟩,
     ⟨(some 71), (some (69, false)), .mv (.t 14)⟩,
     ⟨(some 72), (some (69, false)), .beq true (.t 70) (.t 71)⟩,
     ⟨(some 73), none, .pick (.t 69) (.c (.bool true)) (.t 72)⟩]) (
  .cond (.t 73) (
   .seq (
    .reg none [⟨(some 10), none, .asn (.c (.bool false))⟩]) (
   .ret)) (
   .skip))) (
 .seq (
  .seq (
   .grp none 3 [0, 1] [2] [⟨(some 74), none, .ld 1 true (.t 15)⟩,
     ⟨(some 75), none, .ld 1 true (.t 5)⟩,
     ⟨(some 76), none, .call 17 [(.t 75)]⟩,
     ⟨(some 77), none, .call 21 [(.t 74), (.t 76)]⟩,
     ⟨(some 78), none, .not (.t 77)⟩]) (
  .cond (.t 78) (
   .seq (
    .reg none [⟨(some 10), none, .asn (.c (.bool false))⟩]) (
   .ret)) (
   .skip))) (
 .seq (
  .seq (
   .reg none [⟨(some 79), none, .mv (.t 16)⟩,
     ⟨(some 80), none, .mv (.t 2)⟩,
     ⟨(some 81), none, .call 18 [(.t 80)]⟩,
     ⟨(some 82), none, .call 22 [(.t 79), (.t 81)]⟩,
     ⟨(some 83), none, .not (.t 82)⟩]) (
  .cond (.t 83) (
   .seq (
    .reg none [⟨(some 10), none, .asn (.c (.bool false))⟩]) (
   .ret)) (
   .skip))) (
 .seq (
  .seq (
   .reg none [⟨(some 84), none, .mv (.t 17)⟩,
     ⟨(some 85), none, .mv (.t 3)⟩,
     ⟨(some 86), none, .call 18 [(.t 85)]⟩,
     ⟨(some 87), none, .call 22 [(.t 84), (.t 86)]⟩,
     ⟨(some 88), none, .not (.t 87)⟩]) (
  .cond (.t 88) (
   .seq (
    .reg none [⟨(some 10), none, .asn (.c (.bool false))⟩]) (
   .ret)) (
   .skip))) (
 .seq (
  .reg none [⟨(some 10), none, .asn (.c (.bool true))⟩]) (
 .ret))))))))))))))))
def r_laws_FnExactSimulate : Nat × List RV := (89, [.t 10])

theorem c_laws_FnExactSimulate : cmpS PT PF PA (Try.prog.funcs[7]?) = some (r_laws_FnExactSimulate.1, r_laws_FnExactSimulate.2, stripK k_laws_FnExactSimulate) := by kernel_rfl

set_option maxRecDepth 100000 in
theorem h_law_Simulate (g : TGram) (hlg : lGram g) (k : Int) (rest : List Int) (hlr : lL l0 rest) (w : List Int) (hlw : lL l0 w) (a : Int) : CallsF Try.prog 7 [.agg (sGram g), aI k, .one (.ar false 0 1 (rest.map rI)), .one (.ar false 0 1 (w.map rI)), aI a] (aB true) := by
  refine Prun c_laws_FnExactSimulate (by simp [r_laws_FnExactSimulate]) (by simp) ?_
  unfold k_laws_FnExactSimulate r_laws_FnExactSimulate
  have hsz := h_szGram g 1048576 hlg (by omega) (by omega)
  obtain ⟨ps⟩ := g
  simp only [sGram] at hsz
  simp [sGram]
  by_cases g0 : (1048576 : Int) < rest.length
  · simp [g0]
  simp [g0]
  by_cases g3 : (1048576 : Int) < w.length
  · simp [g3]
  simp [g3]
  refine callG_F hsz (by simp) ?_
  by_cases g1 : (1048576 : Int) < (wGram ⟨ps⟩ : Int)
  · simp [lft_neg g1]
  have e1 : lft 1048576 (wGram ⟨ps⟩) = 1048576 - wGram ⟨ps⟩ := lft_pos (by omega)
  have n1 : ¬ (1048576 : Int) - wGram ⟨ps⟩ < 0 := by omega
  simp [e1, n1]
  have htg := h_toGram ⟨ps⟩ (by omega)
  have htr := h_toIntS rest (by rw [wL_w0]; omega)
  have htw := h_toIntS w (by rw [wL_w0]; omega)
  have hs := h_spec_Simulate ⟨ps⟩ k rest w a (by omega) hlg hlr (by omega) (by omega)
  have hi := h_impl_Simulate ⟨ps⟩ k rest w a (by omega) hlg hlr (by omega)
  obtain ⟨x, y, b, hx⟩ := simR_shape ⟨ps⟩ k rest w a
  rw [hx] at hs hi
  have heg := h_eqGram ⟨ps⟩ (by omega)
  have her := h_eqIntS rest (by rw [wL_w0]; omega)
  have hew := h_eqIntS w (by rw [wL_w0]; omega)
  simp only [sGram, rGram] at htg hs hi heg
  first | refine callG_F htg (by simp) ?_ | refine callOG_F htg (by simp) ?_ | refine gcal_F htg (by simp) ?_ | refine callRG_F htg rfl rfl (by simp) (by simp) ?_ | refine ⟨_, by simp, htg, ?_⟩
  try simp
  first | refine callG_F htr (by simp) ?_ | refine callOG_F htr (by simp) ?_ | refine gcal_F htr (by simp) ?_ | refine callRG_F htr rfl rfl (by simp) (by simp) ?_ | refine ⟨_, by simp, htr, ?_⟩
  try simp
  first | refine callG_F htw (by simp) ?_ | refine callOG_F htw (by simp) ?_ | refine gcal_F htw (by simp) ?_ | refine callRG_F htw rfl rfl (by simp) (by simp) ?_ | refine ⟨_, by simp, htw, ?_⟩
  try simp
  first | refine callG_F hs (by simp) ?_ | refine callOG_F hs (by simp) ?_ | refine gcal_F hs (by simp) ?_ | refine callRG_F hs rfl rfl (by simp) (by simp) ?_ | refine ⟨_, by simp, hs, ?_⟩
  try simp
  first | refine callG_F htg (by simp) ?_ | refine callOG_F htg (by simp) ?_ | refine gcal_F htg (by simp) ?_ | refine callRG_F htg rfl rfl (by simp) (by simp) ?_ | refine ⟨_, by simp, htg, ?_⟩
  try simp
  first | refine callG_F htr (by simp) ?_ | refine callOG_F htr (by simp) ?_ | refine gcal_F htr (by simp) ?_ | refine callRG_F htr rfl rfl (by simp) (by simp) ?_ | refine ⟨_, by simp, htr, ?_⟩
  try simp
  first | refine callG_F htw (by simp) ?_ | refine callOG_F htw (by simp) ?_ | refine gcal_F htw (by simp) ?_ | refine callRG_F htw rfl rfl (by simp) (by simp) ?_ | refine ⟨_, by simp, htw, ?_⟩
  try simp
  first | refine callG_F hi (by simp) ?_ | refine callOG_F hi (by simp) ?_ | refine gcal_F hi (by simp) ?_ | refine callRG_F hi rfl rfl (by simp) (by simp) ?_ | refine ⟨_, by simp, hi, ?_⟩
  try simp
  first | refine callG_F htg (by simp) ?_ | refine callOG_F htg (by simp) ?_ | refine gcal_F htg (by simp) ?_ | refine callRG_F htg rfl rfl (by simp) (by simp) ?_ | refine ⟨_, by simp, htg, ?_⟩
  try simp
  first | refine callG_F heg (by simp) ?_ | refine callOG_F heg (by simp) ?_ | refine gcal_F heg (by simp) ?_ | refine callRG_F heg rfl rfl (by simp) (by simp) ?_ | refine ⟨_, by simp, heg, ?_⟩
  try simp
  first | refine callG_F htr (by simp) ?_ | refine callOG_F htr (by simp) ?_ | refine gcal_F htr (by simp) ?_ | refine callRG_F htr rfl rfl (by simp) (by simp) ?_ | refine ⟨_, by simp, htr, ?_⟩
  try simp
  first | refine callG_F her (by simp) ?_ | refine callOG_F her (by simp) ?_ | refine gcal_F her (by simp) ?_ | refine callRG_F her rfl rfl (by simp) (by simp) ?_ | refine ⟨_, by simp, her, ?_⟩
  try simp
  first | refine callG_F htw (by simp) ?_ | refine callOG_F htw (by simp) ?_ | refine gcal_F htw (by simp) ?_ | refine callRG_F htw rfl rfl (by simp) (by simp) ?_ | refine ⟨_, by simp, htw, ?_⟩
  try simp
  first | refine callG_F hew (by simp) ?_ | refine callOG_F hew (by simp) ?_ | refine gcal_F hew (by simp) ?_ | refine callRG_F hew rfl rfl (by simp) (by simp) ?_ | refine ⟨_, by simp, hew, ?_⟩
  try simp
end Go.Am
-- Gram_sh
namespace Go.Am
open Go.Proofs
set_option maxHeartbeats 4000000
set_option maxRecDepth 100000
attribute [-simp] BitVec.toNat_or BitVec.toNat_and BitVec.toNat_ofInt
attribute [-simp] rConf_len sConf_len shr_rConf shr_sConf shrs_rConf shrs_sConf noSh_rConf mConf_wr mConf_n cS_t cS_f row20_len row20_sc row20_view row20_store row20_aff row20_ref row20_noSh row20_shr row20_lend row20_take row20_drop rB_len setR_noSh
def shGram : List Sh := [.l 1 [.l 1 [.l 1 [.i]]]]
theorem of_Gram (x : List C) (h : inShs shGram x) : ∃ a : TGram, x = sGram a ∧ lGram a := by
  simp only [shGram, inShs] at h
  obtain ⟨c0, r0, rfl, h0, rfl⟩ := h
  obtain ⟨n0, rfl, g0⟩ := of_sl of_ISS c0 h0
  refine ⟨⟨n0⟩, rfl, ?_⟩
  simp only [lGram]
  exact g0
end Go.Am
-- B_FnExactSimulate
namespace Go.Am
open Go.Proofs
set_option maxHeartbeats 4000000
set_option maxRecDepth 100000
attribute [-simp] BitVec.toNat_or BitVec.toNat_and BitVec.toNat_ofInt
open Go.ChangeShapes Go.WideShapes Go.ChangeAt Go.RowKit Go.Proofs.Ytfcbminodkjklaa
theorem trodAll_five {H : Type} {enc : TypeId × Value → H} {P : Program} {w : World} {base : Nat} {spare : Nat → Bool} {held : Bool} {t t1 t2 t3 t4 : TypeId} {args : Array Value} {ds : List (DataW H)} {ps : List MemPlace} (h : DataW.TrodAll enc P w base spare held [t, t1, t2, t3, t4] args.toList ds ps) :
    ∃ v v1 v2 v3 v4 d d1 d2 d3 d4 p p1 p2 p3 p4, args = #[v, v1, v2, v3, v4] ∧ ds = [d, d1, d2, d3, d4] ∧ ps = p ++ p1 ++ p2 ++ p3 ++ p4 ∧ DataW.Trod enc P w base spare held t v d p ∧ DataW.Trod enc P w base spare held t1 v1 d1 p1 ∧ DataW.Trod enc P w base spare held t2 v2 d2 p2 ∧ DataW.Trod enc P w base spare held t3 v3 d3 p3 ∧ DataW.Trod enc P w base spare held t4 v4 d4 p4 := by
  obtain ⟨v, vs, d, ds', p, q, hargs, rfl, rfl, hd, hrest⟩ := trodAll_cons h
  obtain ⟨v1, vs1, d1, ds1, p1, q1, rfl, rfl, rfl, hd1, hrest1⟩ := trodAll_cons hrest
  obtain ⟨v2, vs2, d2, ds2, p2, q2, rfl, rfl, rfl, hd2, hrest2⟩ := trodAll_cons hrest1
  obtain ⟨v3, vs3, d3, ds3, p3, q3, rfl, rfl, rfl, hd3, hrest3⟩ := trodAll_cons hrest2
  obtain ⟨v4, vs4, d4, ds4, p4, q4, rfl, rfl, rfl, hd4, hrest4⟩ := trodAll_cons hrest3
  obtain ⟨rfl, rfl, rfl⟩ := trodAll_nil hrest4
  exact ⟨v, v1, v2, v3, v4, d, d1, d2, d3, d4, p, p1, p2, p3, p4, by cases args; simp_all, rfl, by simp, hd, hd1, hd2, hd3, hd4⟩
theorem trodAll_mk5 {H : Type} {enc : TypeId × Value → H} {P : Program} {w : World} {base : Nat} {spare : Nat → Bool} {held : Bool} {t t1 t2 t3 t4 : TypeId} {v v1 v2 v3 v4 : Value} {d d1 d2 d3 d4 : DataW H} {p p1 p2 p3 p4 : List MemPlace} (h : DataW.Trod enc P w base spare held t v d p) (h1 : DataW.Trod enc P w base spare held t1 v1 d1 p1)
    (h2 : DataW.Trod enc P w base spare held t2 v2 d2 p2) (h3 : DataW.Trod enc P w base spare held t3 v3 d3 p3) (h4 : DataW.Trod enc P w base spare held t4 v4 d4 p4) : DataW.TrodAll enc P w base spare held [t, t1, t2, t3, t4] [v, v1, v2, v3, v4] [d, d1, d2, d3, d4] (p ++ (p1 ++ (p2 ++ (p3 ++ p4)))) := ⟨p, p1 ++ (p2 ++ (p3 ++ p4)), h, trodAll_mk4 h1 h2 h3 h4, rfl⟩
theorem own_FnExactSimulate : ownKnob Try.prog.godebug = none := by kernel_rfl
theorem laidOut_FnExactSimulate : laidOutB Try.prog = true := by kernel_rfl
set_option maxRecDepth 100000 in
theorem lifted_FnExactSimulate (os : Os) (started : os.Started) (H : Type) (enc : TypeId × Value → H) :
    ReturnsInHanded {} Try.checked os 7 .any (Rows.fnExactSimulateSpec.pre6 enc Try.prog Try.f7 Rows.fnExactSimulateRow.domain false) (Rows.fnExactSimulateSpec.post enc Try.prog Try.f7 false true false false) := by
  refine returnsInHanded_of_change (C := Try.checked) own_FnExactSimulate started (by kernel_rfl) Try.func7
    (ChangeSpec.witness6 (enc := enc) (C := Try.checked) false ⟨#[], #[.agg #[.slice none 0 0], .int .i64 0, .slice none 0 0, .slice none 0 0, .int .i64 0], []⟩ 8 (by kernel_rfl) (by kernel_rfl) (by kernel_rfl) (by kernel_rfl)) ?_
  intro W base args ds gs before hval0 hW hcnd _
  have hval : ∀ (j : Nat) t v, Try.f7.params[j]? = some t → args[j]? = some v → Value.okWide Try.prog W .any base t v := hval0
  have hW' := hW
  obtain ⟨p, q, hA0, hV, rfl, hfz, hnd⟩ := hW
  have hA : DataW.TrodAll enc Try.prog W 0 (fun _ => true) true Try.f7.params.toList args.toList ds p := hA0
  rw [Try.params7] at hA hval
  obtain ⟨v0, v1, v2, v3, v4, d0, d1, d2, d3, d4, p0, p1, p2, p3, p4, rfl, rfl, rfl, h0, h1, h2, h3, h4⟩ := trodAll_five hA
  obtain ⟨rfl, rfl⟩ := trodVars_none hV
  have hV0 : ∀ (W' : World) (sp : Nat → Bool), DataW.TrodVars enc Try.checked.prog W' sp Rows.fnExactSimulateSpec.vars ([] : List (DataW H)) [] := fun _ _ => by first | rfl | trivial | exact ⟨rfl, rfl⟩ | exact ⟨_, rfl, rfl⟩
  have hk0 := h0
  have hs0 : shT Try.prog 12 33 = some shGram := by kernel_rfl
  obtain ⟨row0, hc0, hr0⟩ := arg_st (lc := fun _ => none) Try.underlying33 hs0 (hval 0 33 v0 rfl rfl) h0
  obtain ⟨x0, rfl, hl0⟩ := of_Gram row0 hc0
  obtain ⟨a1, rfl, rfl, rfl, wa1⟩ := open_int Try.underlying3 (hval 1 3 v1 rfl rfl) h1
  have hk2 := h2
  have hs2 : shT Try.prog 12 34 = some [.l 1 [.i]] := by kernel_rfl
  obtain ⟨c2, hc2, hr2⟩ := arg_sl (lc := fun _ => none) Try.underlying34 hs2 (hval 2 34 v2 rfl rfl) h2
  obtain ⟨x2, rfl, hl2⟩ := of_sl of_int c2 hc2
  have hk3 := h3
  have hs3 : shT Try.prog 12 34 = some [.l 1 [.i]] := by kernel_rfl
  obtain ⟨c3, hc3, hr3⟩ := arg_sl (lc := fun _ => none) Try.underlying34 hs3 (hval 3 34 v3 rfl rfl) h3
  obtain ⟨x3, rfl, hl3⟩ := of_sl of_int c3 hc3
  obtain ⟨a4, rfl, rfl, rfl, wa4⟩ := open_int Try.underlying3 (hval 4 3 v4 rfl rfl) h4
  clear hA0 hval0
  simp only [List.append_nil] at hW'
  refine (below_of (h_law_Simulate x0 hl0 a1 x2 hl2 x3 hl3 a4) (fun _ _ _ _ h => h.1) W [v0, .int .i64 a1, v2, v3, .int .i64 a4] (by simp [sGram, aI, aS, A.ref, C.ref, refCs]) ⟨_, _, fz, fz, rfl, (add_fz _).symm, hr0, ⟨_, _, fz, fz, rfl, (add_fz _).symm, ⟨rfl, rfl⟩, ⟨_, _, fz, fz, rfl, (add_fz _).symm, hr2, ⟨_, _, fz, fz, rfl, (add_fz _).symm, hr3, ⟨_, _, fz, fz, rfl, (add_fz _).symm, ⟨rfl, rfl⟩, ⟨rfl, rfl⟩⟩⟩⟩⟩⟩ rfl).mono fun e W' ⟨he, hw⟩ => ?_
  subst he
  exact ⟨_, rfl, [d0, .lit (.int .i64 a1), d2, d3, .lit (.int .i64 a4)], [], _, [], _, [], by simpa using hW', trodAll_mk1 (shut_bool Try.underlying4 true), trodAll_mk5 (Below.trod laidOut_FnExactSimulate (by kernel_rfl) (of_decide_eq_true (by kernel_rfl)) hk0 hw (fun x hx => by have := hW'.lt x (by simp [hx]); simpa using this)) (shut_int Try.underlying3 wa1) (Below.trod laidOut_FnExactSimulate (by kernel_rfl) (of_decide_eq_true (by kernel_rfl)) hk2 hw (fun x hx => by have := hW'.lt x (by simp [hx]); simpa using this)) (Below.trod laidOut_FnExactSimulate (by kernel_rfl) (of_decide_eq_true (by kernel_rfl)) hk3 hw (fun x hx => by have := hW'.lt x (by simp [hx]); simpa using this)) (shut_int Try.underlying3 wa4), hV0 _ _, hw.frame _, fun h => by cases h⟩
theorem holds_FnExactSimulate : Rows.FnExactSimulateSaid :=
  OpenClaim.holds_of_wide 7 Try.f7 rfl rfl rfl rfl rfl rfl rfl ⟨rfl, rfl, rfl, rfl, rfl⟩ rfl rfl rfl rfl rfl (by kernel_rfl) Try.func7 (by kernel_rfl)
    (of_decide_eq_true (by kernel_rfl)) (by unfold Func.isWrapper; first | (rw [if_pos (by decide +kernel)]; kernel_rfl) | (rw [if_neg (by decide +kernel)]; exact ⟨rfl, rfl⟩))
    (fun os started H enc _ => lifted_FnExactSimulate os started H enc)
#print axioms holds_FnExactSimulate
end Go.Am
namespace Go.Proofs.Ytfcbminodkjklaa
theorem fnExactSimulate_holds : Rows.FnExactSimulateSaid := Go.Am.holds_FnExactSimulate
end Go.Proofs.Ytfcbminodkjklaa
