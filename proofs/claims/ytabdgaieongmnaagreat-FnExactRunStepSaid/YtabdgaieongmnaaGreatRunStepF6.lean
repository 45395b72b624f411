/- FRAMEWORK, text 6: slices.Insert, Clone, Delete: contracts at any element width. Proved once, for every program; no condition. -/
import Derived.Test.YtabdgaieongmnaaGreatRunStepF5
import Derived.Shelf.Spec.SlicesInsertGrow
import Derived.Shelf.SlGeneric
import Derived.Deep.RegionLaw
import Derived.Shelf.Spec.SlicesGrow
set_option linter.unusedVariables false
set_option linter.unusedSimpArgs false
namespace Go.AmL
open Go.Proofs Go.Shelf Go.RowKit Go.Lib
variable {P : Program} {ρ : Shelf.Ren}
end Go.AmL
namespace Go.AmL
open Go.Proofs Go.Shelf Go.RowKit Go.Lib
variable {P : Program} {ρ : Shelf.Ren}
end Go.AmL
namespace Go.AmL
open Go.Proofs Go.Shelf Go.RowKit Go.Lib Go.Am
variable {P : Program} {ρ : Shelf.Ren}
end Go.AmL
namespace Go.Am
open Go.Proofs Go.AmL
variable {P : Program} {ρ : Shelf.Ren} {w : World} {N : Nat → Prop} {lc : Loc}
theorem grown_calls {f : Nat} {el e : Nat} {rs : List (List C)} {ob : Option Nat} {gs : List Value} {w : World} {N : Nat → Prop} {lc : Loc} {F Fa Fo Gr : Fp} {vals : List Value}
    (hB : Base w N F) (hle : ∀ b, Fa b + Fo b ≤ F b) (hGb : ∀ b, ob = some b → Fa b ≥ 1 + Gr b) (hGle : ∀ b, Gr b ≤ Fa b)
    (hrows : repRows w N e rs vals Gr)
    (hc : Calls P f gs.toArray w fun ex w' => ∃ v', ex = .returned v' ∧ w'.ownsRow 0 el e v' rs.length vals ∧ w.grownBy w' ob ∧ (v'.ownBlock = ob ∨ ∃ g, v'.ownBlock = some g ∧ w.heap.size ≤ g)) :
    Calls P f gs.toArray w fun ex w' => ∃ (g : Value) (r : A) (H' : List (Nat × Obj)) (N' : Nat → Prop) (lc' : Loc) (F' Fr' Fo' : Fp), ex = .returned g ∧ (H' = [] ∧ r = .one (.ar true el e rs)) ∧ Base w' N' F' ∧ repA w' N' lc' r g Fr' ∧ repOb w' N' lc' H' Fo' ∧
      (∀ b, Fr' b + Fo' b ≤ F' b) ∧ r.ref (fun _ _ => true) = false ∧ Fr w F N lc w' F' N' lc' := by
  refine hc.mono fun ex w' ⟨v', hex, hown', hgrow, hblk⟩ => ?_
  have hF1 : ∀ b, F b ≤ 1 := hB.one
  have zb : ∀ b, ob = some b → Gr b = 0 ∧ F b = 1 := fun b hb => by
    have h1 := hGb b hb; have h2 := hle b; have h3 := hF1 b; omega
  have keepH : ∀ b, 1 ≤ Gr b ∨ N b → w'.heap[b]? = w.heap[b]? := by
    intro b hb
    have hlt : b < w.heap.size := hb.elim (fun h => hB.lt b (by have := hGle b; have := hle b; omega)) fun h => (hB.nb b h).2
    refine hgrow.block b hlt fun he => ?_
    have h1 := zb b he.symm
    rcases hb with hb | hb
    · omega
    · have := (hB.nb b hb).1; omega
  have hrows' := repRows_keep (w' := w') (N' := N) e rs vals Gr keepH (fun _ h => h) hrows
  rcases hown'.2 with ⟨rfl, hn0⟩ | ⟨g, cap, cur, rfl, _, hg, hncap, hmax, hsz, htake⟩
  · have hx : rs = [] := List.eq_nil_of_length_eq_zero hn0
    subst hx
    exact ⟨_, _, [], N, lc, F, fz, fz, hex, ⟨rfl, rfl⟩, ⟨hF1, fun b hb => Nat.lt_of_lt_of_le (hB.lt b hb) hgrow.size, fun b hb => ⟨(hB.nb b hb).1, Nat.lt_of_lt_of_le (hB.nb b hb).2 hgrow.size⟩⟩,
      by simp [repA, repT, repC], by simp [repOb], fun b => by simp [fz], rfl, ⟨hgrow.os, hgrow.tape, hgrow.output, hgrow.size, fun b hb h0 => hgrow.block b hb (fun he => by have := (zb b he.symm).2; omega), fun _ h => .inl h, fun _ h => h, fun _ h => .inl h, fun _ _ => rfl⟩⟩
  · have hv : repA w' N lc (.one (.ar true el e rs)) (.slice (some ⟨g, 0, none⟩) rs.length cap) (add (Am.one g) Gr) := by
      simp only [repA, repT, repC]
      exact .inr ⟨g, cap, cur, Gr, rfl, hg, hncap, hmax, hsz, by rw [htake]; exact hrows', rfl⟩
    have hglt : g < w'.heap.size := (Array.getElem?_eq_some_iff.1 hg).1
    rcases hblk with hbk | hbk
    · have hbk' : ob = some g := by rw [← hbk]; rfl
      have hz := zb g hbk'
      refine ⟨_, _, [], N, lc, F, _, fz, hex, ⟨rfl, rfl⟩, ⟨hF1, fun b hb => Nat.lt_of_lt_of_le (hB.lt b hb) hgrow.size, fun b hb => ⟨(hB.nb b hb).1, Nat.lt_of_lt_of_le (hB.nb b hb).2 hgrow.size⟩⟩,
        hv, by simp [repOb], fun b => ?_, rfl, ⟨hgrow.os, hgrow.tape, hgrow.output, hgrow.size, fun b hb h0 => hgrow.block b hb (fun he => by have := (zb b he.symm).2; omega), fun _ h => .inl h, fun _ h => h, fun _ h => .inl h, fun _ _ => rfl⟩⟩
      have h1 := hle b; have h3 := hGle b
      by_cases hbg : b = g
      · subst hbg
        simp only [add, fz, Am.one, if_true] at *
        omega
      · simp only [add, fz, Am.one, if_neg hbg] at *
        omega
    · obtain ⟨g0, hbk, hge⟩ := hbk
      have hgn : g = g0 := by simpa [Value.ownBlock] using hbk
      subst hgn
      refine ⟨_, _, [], N, lc, own F g, _, fz, hex, ⟨rfl, rfl⟩, ⟨fun b => ?_, fun b hb => ?_, fun b hb => ?_⟩,
        hv, by simp [repOb], fun b => ?_, rfl, ⟨hgrow.os, hgrow.tape, hgrow.output, hgrow.size, fun b hb h0 => hgrow.block b hb (fun he => by have := (zb b he.symm).2; omega), fun b hb => ?_, fun _ h => h, fun _ h => .inl h, fun _ _ => rfl⟩⟩
      · unfold own; split
        · exact Nat.le_refl _
        · exact hF1 b
      · unfold own at hb
        split at hb
        · rename_i hb'; rw [hb']; exact hglt
        · exact Nat.lt_of_lt_of_le (hB.lt b hb) hgrow.size
      · have := hB.nb b hb
        unfold own
        rw [if_neg (by omega)]
        exact ⟨this.1, Nat.lt_of_lt_of_le this.2 hgrow.size⟩
      · have h1 := hle b; have h3 := hGle b; have h4 : F g = 0 := by
          rcases Nat.eq_zero_or_pos (F g) with h | h
          · exact h
          · have := hB.lt g h; omega
        by_cases hbg : b = g
        · subst hbg
          simp only [add, fz, Am.one, own, if_true] at *
          omega
        · simp only [add, fz, Am.one, own, if_neg hbg] at *
          omega
      · unfold own at hb
        split at hb
        · right; omega
        · exact .inl hb
end Go.Am
namespace Go.AmL
open Go.Proofs Go.Shelf Go.RowKit Go.Lib Go.Am
variable {P : Program} {ρ : Shelf.Ren}
structure LCl (P : Program) (ρ : Shelf.Ren) (e : Nat) : Prop where
  mixed : P.follows .mixedOrders = true
  f16 : Bears P (ρ.f 16) (Body2.n16 ρ)
  t4 : P.underlying (ρ.t 4) = some (TypeDesc.bool)
  a4 : ∀ w, (isAgg (ρ.t 4)).run P w = .ok false w
  z4 : ∀ w, (Go.sizeOf (ρ.t 4)).run P w = .ok 1 w
  z9 : ∀ w, (Go.sizeOf (ρ.t 9)).run P w = .ok e w
  t24 : P.underlying (ρ.t 24) = some (TypeDesc.slice (ρ.t 9))
  a24 : ∀ w, (isAgg (ρ.t 24)).run P w = .ok false w
  z24 : ∀ w, (Go.sizeOf (ρ.t 24)).run P w = .ok 1 w
  i9 : ∃ i z, P.info? (ρ.t 9) = some i ∧ i.zero = some z ∧ i.size = e ∧ i.bytes ≤ 16384 ∧ z.cells.size = e
  he : 0 < e
set_option maxHeartbeats 4000000 in
theorem clone_nil {e : Nat} (L : LCl P ρ e) (c : Nat) (w : World) :
    Calls P (ρ.f 16) #[.slice none 0 c] w fun ex w1 => ex = .returned (.slice none 0 0) ∧ w1 = w := by
  have t4 := L.t4; have a4 := L.a4; have z4 := L.z4; have u4 := run_underlying L.t4
  have z9 := L.z9; have t24 := L.t24; have a24 := L.a24; have z24 := L.z24
  have u24 := run_underlying L.t24
  have mixed := L.mixed
  have q24 : ∀ (w : World) (a : Option Addr) (n c n' c' : Nat), (binOp .eql (ρ.t 24) (.slice a n c) (.slice none n' c')).run P w = .ok (.bool a.isNone) w := fun w a n c n' c' => Lib.run_eql_slice_nil w _ _ a n c n' c' L.t24
  obtain ⟨nm, _, F16⟩ := L.f16
  go_enter F16, Body2.n16_ntmps ρ
  go_wp2
  go_ret
  exact ⟨rfl, rfl⟩
set_option maxHeartbeats 4000000 in
theorem clone_some {e : Nat} (L : LCl P ρ e) (a : Addr) (n c : Nat) (w : World) (hnc : n ≤ c) (hmax : c ≤ 9223372036854775807) {v' : Value} {w' : World}
    (hrun : (Builtin.append_ #[ρ.t 24, ρ.t 24] (ρ.t 24) #[.slice (some ⟨w.heap.size, 0, none⟩) 0 0, .slice (some a) n c]).run P (w.alloc (.cells #[] (ρ.t 9))) = .ok v' w') :
    Calls P (ρ.f 16) #[.slice (some a) n c] w fun ex w1 => ex = .returned v' ∧ w1 = w' := by
  have t4 := L.t4; have a4 := L.a4; have z4 := L.z4; have u4 := run_underlying L.t4
  have z9 := L.z9; have t24 := L.t24; have a24 := L.a24; have z24 := L.z24
  have u24 := run_underlying L.t24
  have mixed := L.mixed
  have q24 : ∀ (w : World) (a : Option Addr) (n c n' c' : Nat), (binOp .eql (ρ.t 24) (.slice a n c) (.slice none n' c')).run P w = .ok (.bool a.isNone) w := fun w a n c n' c' => Lib.run_eql_slice_nil w _ _ a n c n' c' L.t24
  obtain ⟨nm, _, F16⟩ := L.f16
  go_enter F16, Body2.n16_ntmps ρ
  go_wp2_with (at_builtin; refine Lib.wpList_append_run _ rfl _ _ _ _ rfl _ _ rfl rfl _ _ hrun ?_)
  go_ret
  exact ⟨rfl, rfl⟩
end Go.AmL
namespace Go.Am
open Go.Proofs Go.AmL
variable {P : Program} {ρ : Shelf.Ren}
theorem clone_callsF {e : Nat} (L : LCl P ρ e) (xs : List (List C)) (hn : xs.length ≤ 4294967296) : CallsF P (ρ.f 16) [.one (.ar false 0 e xs)] (.one (.ar true (ρ.t 9) e xs)) := by
  intro w N lc gs F Fa Fo hB hle hrf hgs hob
  simp only [repAs, repA, repT] at hgs
  obtain ⟨g, gs1, F1, F2, rfl, rfl, hg, rfl, rfl⟩ := hgs
  simp only [repC] at hg
  obtain ⟨rfl, a, cap, rfl, hnc, hmax, hne⟩ := hg
  cases a with
  | none =>
    have hx : xs = [] := by
      by_cases h : xs = []
      · exact h
      · obtain ⟨_, _, _, _, _, h, _⟩ := hne h
        cases h
    subst hx
    refine (clone_nil L cap w).mono fun ex w' h => ?_
    obtain ⟨rfl, rfl⟩ := h
    exact ⟨_, _, [], N, lc, F, fz, fz, rfl, ⟨rfl, rfl⟩, hB, by simp [repA, repT, repC], by simp [repOb], fun b => by simp [fz], rfl, Fr.refl _ _ _ _⟩
  | some a =>
    have hcl : ∃ vals, repRows w N e xs vals fz ∧ ∀ j u, vals[j]? = some u → w.cell? (a.add j) = some u := by
      by_cases h : xs = []
      · subst h
        exact ⟨[], by simp [repRows], fun j u hj => by simp at hj⟩
      · obtain ⟨b, off, cur, ty, fr, ha, hN, hb, hsz, hr⟩ := hne h
        injection ha with ha
        subst ha
        refine ⟨_, hr, fun j u hj => ?_⟩
        rw [addr_add', cell_of_blk hb]
        rw [List.getElem?_take] at hj
        split at hj
        · rw [List.getElem?_drop] at hj; simpa using hj
        · cases hj
    obtain ⟨vals, hrv, hcells⟩ := hcl
    obtain ⟨i9, zv, hi9, hz9, hs9, hb9, hzc⟩ := L.i9
    have hbytes : (0 + xs.length) * i9.bytes ≤ 140737488355328 := by
      have h1 : (0 + xs.length) * i9.bytes ≤ 4294967296 * 16384 := Nat.mul_le_mul (by omega) hb9
      omega
    have hsz : (w.alloc (.cells #[] (ρ.t 9))).heap.size = w.heap.size + 1 := by show (w.heap.push _).size = _; simp
    have hat : (w.alloc (.cells #[] (ρ.t 9))).heap[w.heap.size]? = some (.cells #[] (ρ.t 9) (0, 0)) := by show (w.heap.push _)[w.heap.size]? = _; simp
    obtain ⟨v', w', hrun, h2, h3, _, h5⟩ := run_append_own_at (P := P) (w.alloc (.cells #[] (ρ.t 9))) 0 (ρ.t 24) (ρ.t 24) (ρ.t 9) i9 zv e i9.bytes L.t24 hi9 hz9 hs9 rfl hzc L.he (.slice (some ⟨w.heap.size, 0, none⟩) 0 0) 0 []
      ⟨by simp, .inr ⟨w.heap.size, 0, #[], rfl, Nat.zero_le _, hat, Nat.le_refl _, by simp [maxLen], by simp, by simp⟩⟩ a xs.length cap vals (repRows_len hrv)
      (fun j u hj => by
        have := hcells j u hj
        simp only [World.cell?] at this ⊢
        have hlt : (a.add j).block < w.heap.size := by
          rcases Nat.lt_or_ge (a.add j).block w.heap.size with h | h
          · exact h
          · rw [Array.getElem?_eq_none h] at this; cases this
        rw [show (w.alloc (.cells #[] (ρ.t 9))).heap[(a.add j).block]? = w.heap[(a.add j).block]? from Array.getElem?_push_lt hlt |>.trans (by simp [hlt])]
        exact this)
      (repRows_oneCell hrv) (by simp only [maxLen]; omega) hbytes (Nat.zero_le _)
    refine grown_calls (Fo := Fo) (ob := none) (Gr := fz) (rs := xs) hB hle (fun b hq => by cases hq) (fun b => by simp [fz]) hrv ?_
    simp only [maxLen] at hmax
    refine (clone_some L a xs.length cap w hnc (by omega) hrun).mono fun ex w1 h => ?_
    obtain ⟨rfl, rfl⟩ := h
    refine ⟨v', rfl, by simpa using h2, ⟨h3.os, h3.tape, h3.output, ?_, fun k hk _ => ?_⟩, ?_⟩
    · have := h3.size
      rw [hsz] at this
      omega
    · rw [h3.block k (by rw [hsz]; omega) (by simp [Value.ownBlock]; omega)]
      exact Array.getElem?_push_lt hk |>.trans (by simp [hk])
    · right
      rcases h5 with h5 | h5
      · exact ⟨_, h5, Nat.le_refl _⟩
      · exact ⟨_, h5, by rw [hsz]; omega⟩
end Go.Am
namespace Go.AmL
open Go.Proofs Go.Shelf Go.RowKit Go.Lib Go.Am
variable {P : Program} {ρ : Shelf.Ren}
end Go.AmL
namespace Go.Am
open Go.Proofs Go.AmL
variable {P : Program} {ρ : Shelf.Ren}
end Go.Am
namespace Go.Am
open Go.Proofs Go.AmL
variable {P : Program} {ρ : Shelf.Ren}
theorem grow_calls0 (L : Lays8.n4 P ρ) (i0 : TypeInfo) (z : Value) (hi0 : P.info? (ρ.t 25) = some i0) (hz0 : i0.zero = some z) (hs0 : i0.size = 1) (hzs : z.cells.size = 1) (hby : i0.bytes ≤ 16384) (n : Nat) (hn : n ≤ 4294967296) :
    CallsF P (ρ.f 4) [.one (.ar true (ρ.t 25) 1 []), .one (.int .i64 n)] (.one (.ar true (ρ.t 25) 1 [])) := by
  intro w N lc gs F Fa Fo hB hle hrf hgs hob
  simp only [repAs, repA, repT] at hgs
  obtain ⟨s, gs1, Fs, F1, rfl, rfl, hs, iv, gs2, Fi, F2, rfl, rfl, hiv, rfl, rfl⟩ := hgs
  simp only [repC] at hiv
  obtain ⟨rfl, rfl⟩ := hiv
  have key : ∃ base c, s = .slice base 0 c ∧ c ≤ maxLen ∧ (base = none → c = 0) ∧ ∃ cs : List Value, cs.length = c ∧ ∀ a, base = some a → ∀ j v, cs[j]? = some v → w.cell? (a.add j) = some v := by
    rcases repC_arT hs with ⟨_, a, hv⟩ | ⟨b, cap, cur, F', hcp, hv, hb, hl, hc, hsz, hr, _⟩
    · exact ⟨a, 0, hv, by simp [maxLen], fun _ => rfl, [], rfl, fun _ _ j v h => by simp at h⟩
    · refine ⟨some ⟨b, 0, none⟩, cap, hv, hc, (fun h => by cases h), cur.toList, by simp [hsz], fun a ha j v h => ?_⟩
      injection ha with ha
      subst ha
      rw [addr_add', Nat.zero_add, cell_of_blk hb]
      simpa using h
  obtain ⟨base, c, rfl, hcm, hnil, cs, hcl, hcs⟩ := key
  by_cases hroom : n ≤ c
  · refine (Any8.slices_Grow_room L base 0 c n w (Nat.zero_le _) (by simp only [maxLen] at hcm; omega) (by omega) (by omega)).mono ?_
    rintro ex w' ⟨rfl, rfl⟩
    refine ⟨_, _, [], N, lc, F, _, fz, rfl, ⟨rfl, rfl⟩, hB, hs, by simp [repOb], fun b => ?_, rfl, Fr.refl ..⟩
    have := hle b; simp only [add, fz] at *; omega
  · have hcge : c < 0 + n := by omega
    refine grown_calls (Gr := fz) (vals := []) (rs := []) (ob := none) hB hle (fun b h => by cases h) (fun b => by simp [fz]) (by simp [repRows]) ?_
    refine (Any8.slices_Grow_grow L i0 z hi0 hz0 (by omega) base 0 c n cs w (Nat.zero_le _) hcge ?_ (by omega) (by rw [hs0, hcl]; omega) hnil hcs).mono ?_
    · have : (0 + n) * i0.bytes ≤ 4294967296 * 16384 := Nat.mul_le_mul (by omega) hby
      omega
    · rintro ex w' ⟨rfl, rfl⟩
      have hge := grownCap_ge w (0 + n) c (ρ.t 25)
      have hmx := grownCap_le_maxLen w (0 + n) c (ρ.t 25) (by simp only [maxLen]; omega)
      have hnew := alloc_new w.drew (.cells (cs.toArray ++ Builtin.zeroCells z.cells (0 + n - c) ++ Builtin.zeroCells z.cells (grownCap w (0 + n) c (ρ.t 25) - (0 + n))) (ρ.t 25))
      refine ⟨_, rfl, ⟨by simp, .inr ⟨w.heap.size, _, _, rfl, Nat.zero_le _, hnew, Nat.zero_le _, hmx, ?_, by simp⟩⟩, ?_, .inr ⟨w.heap.size, rfl, Nat.le_refl _⟩⟩
      · simp only [Array.size_append, size_zeroCells, List.size_toArray, hcl, hzs]
        omega
      · exact ⟨rfl, rfl, rfl, by simp, fun k hk _ => alloc_old w.drew _ k hk⟩
end Go.Am
