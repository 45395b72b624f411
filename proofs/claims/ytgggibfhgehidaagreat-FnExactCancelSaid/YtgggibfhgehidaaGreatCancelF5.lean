/- FRAMEWORK, text 5: contracts by a run on trees; laws of lists and marks; what an argument reads as. Proved once, for every program; no condition. -/
import Derived.Test.YtgggibfhgehidaaGreatCancelF4
import Derived.ProofKit
set_option linter.unusedVariables false
set_option linter.unusedSimpArgs false
namespace Go.Am
def insO (k : Nat) (o : Obj) : List (Nat × Obj) → List (Nat × Obj)
 | [] => [(k, o)]
 | (j, p) :: r => if j < k then (j, p) :: insO k o r else (k, o) :: (j, p) :: r
def outs : List (Nat × Obj) → List (Nat × Obj)
 | [] => []
 | (k, o) :: r => if 1000 ≤ k then insO k o (outs r) else outs r
def t0s (rs : List RV) (R : A → List (Nat × Obj) → Prop) : Ex → St → Prop
 | .x _, _ => False
 | _, σ => ∃ xs σ1, q0f σ rs = some (xs, σ1) ∧ R (k02 xs) (outs σ1.ob)
section
variable {P : Program} {w : World} {N : Nat → Prop} {lc : Loc} {tmps : Array Value} {ds : List Deferred} {F G : Fp} {σ σ1 : St}
theorem v11 (k : Nat) (o : Go.Am.Obj) : ∀ (l : List (Nat × Go.Am.Obj)) (F1 F2 : Fp), repO w N (lc k) o.t o.e o.xs F1 → y05 w N lc l F2 → y05 w N lc (insO k o l) (add F1 F2)
 | [], F1, F2, h1, h2 => by
   simp only [insO, y05]
   exact ⟨F1, F2, rfl, h1, h2⟩
 | (j, p) :: r, F1, F2, h1, h2 => by
   simp only [insO]
   split
   ·simp only [y05] at h2 ⊢
    obtain ⟨F3, F4, rfl, h3, h4⟩ := h2
    exact ⟨F3, add F1 F4, by funext b; simp only [add]; omega, h3, v11 k o r F1 F4 h1 h4⟩
   ·simp only [y05] at h2 ⊢
    exact ⟨F1, F2, rfl, h1, h2⟩
theorem v17 : ∀ (ob : List (Nat × Obj)) (Fo : Fp), y05 w N lc ob Fo → ∃ F', (∀ b, F' b ≤ Fo b) ∧ y05 w N lc (outs ob) F'
 | [], Fo, h => ⟨Fo, fun _ => Nat.le_refl _, h⟩
 | (k, o) :: r, Fo, h => by
   simp only [y05] at h
   obtain ⟨F1, F2, rfl, h1, h2⟩ := h
   obtain ⟨F', hle, h'⟩ := v17 r F2 h2
   simp only [outs]
   split
   ·exact ⟨add F1 F', fun b => by have := hle b; simp only [add]; omega, v11 k o _ F1 F' h1 h'⟩
   ·exact ⟨F', fun b => by have := hle b; simp only [add]; omega, h'⟩
mutual
theorem e02 {p : Nat → Path → Bool} : ∀ (c : C) {v : Value} {F : Fp}, repC w N c v F → c.ref p = false
 | .vw .., _, _, h => h.elim
 | .pt .., _, _, h => h.elim
 | .ps .., _, _, h => h.elim
 | .fn f cap, _, _, h => by
   simp only [repC] at h
   obtain ⟨_, vs, _, hr⟩ := h
   exact s0a cap hr
 | .dead, _, _, _ => rfl
 | .int .., _, _, _ => rfl
 | .bool .., _, _, _ => rfl
 | .str .., _, _, _ => rfl
 | .np, _, _, _ => rfl
 | .ar .., _, _, _ => rfl
theorem s0a {p : Nat → Path → Bool} : ∀ (cs : List C) {vs : List Value} {F : Fp}, z0b w N cs vs F → x0a p cs = false
 | [], _, _, _ => rfl
 | c :: cs, _, _, h => by
   simp only [z0b] at h
   obtain ⟨v, vs', F1, F2, _, _, h1, h2⟩ := h
   simp only [x0a, e02 c h1, s0a cs h2, Bool.or_false]
end
theorem e0n {p : Nat → Path → Bool} {cs : List C} {vs : List Value} {F : Fp} (h : z0b w N cs vs F) : x0a p cs = false := s0a cs h
def z15 (tmps : Array Value) : ResultVar → Sem Value
 | .tmp t => pure (tmps.getD t undef)
 | .cell a t => do loadVar t (← asAddr (tmps.getD a undef))
theorem y1g {r : RV} {ro : ResultVar} {x : Bool × List C} (h : i0l σ r = some (x, σ1)) (hr : RVOf P r ro) (hB : Base w N F) (hh : Hold w N lc σ tmps F G) :
 ∃ (g : Value) (vs : List Value) (N' : Nat → Prop) (F' G' : Fp), (z15 tmps ro).run P w = .ok g w ∧ g = (if x.1 then .agg vs.toArray else vs.getD 0 undef) ∧ (x.1 = false → x.2.length = 1) ∧ z0b w N' x.2 vs G' ∧ Base w N' F' ∧ Hold w N' lc σ1 tmps F' (add G G') ∧ Fr w F N lc w F' N' lc := by
 cases r with
 | t t =>
   cases ro with
   | cell => exact hr.elim
   | tmp t' =>
     have : t = t' := hr
     subst this
     simp only [i0l] at h
     split at h
     ·rename_i c σ2 ht
      split at h
      case h_2 => cases h
      rename_i c' σ3 hs
      simp only [Option.some.injEq, Prod.mk.injEq] at h
      obtain ⟨rfl, rfl⟩ := h
      obtain ⟨G1, hr1, hH, _, _⟩ := y0o (x := .t t) (o := .tmp t) (ds := []) (show XOf (.t t) (.tmp t) from rfl) ht hh
      obtain ⟨N', F', G', h1, h2, h3, h4⟩ := h0e hs hr1 hB hH
      exact ⟨_, [(Act.mk tmps []).eval (.tmp t)], N', F', G', rfl, rfl, fun _ => rfl, ⟨_, [], G', fz, rfl, (z0j _).symm, h1, rfl, rfl⟩, h2, h3, h4⟩
     ·rename_i cs σ2 ht
      split at h
      case h_2 => cases h
      rename_i cs' σ3 hs
      simp only [Option.some.injEq, Prod.mk.injEq] at h
      obtain ⟨rfl, rfl⟩ := h
      obtain ⟨G1, ⟨vs, hv, hr1⟩, hH, _, _⟩ := y0o (x := .t t) (o := .tmp t) (ds := []) (show XOf (.t t) (.tmp t) from rfl) ht hh
      obtain ⟨N', F', G', h1, h2, h3, h4⟩ := s0x hs hr1 hB hH
      exact ⟨_, vs, N', F', G', rfl, hv, (fun h => by cases h), h1, h2, h3, h4⟩
     ·cases h
 | c t n ag =>
   cases ro with
   | tmp => exact hr.elim
   | cell t' ty =>
     obtain ⟨rfl, hs, ha, h1⟩ := hr
     simp only [i0l] at h
     split at h
     case h_2 => cases h
     rename_i e id hl
     split at h
     case isFalse => cases h
     cases hlo : look σ.ob id with
     | none => rw [hlo] at h; simp at h
     | some o =>
       rw [hlo] at h
       simp only at h
       split at h
       case h_2 => cases h
       rename_i row hxs
       split at h
       case isFalse => cases h
       rename_i hc
       obtain ⟨he, hn, _⟩ := hc
       simp only [Option.some.injEq, Prod.mk.injEq] at h
       obtain ⟨rfl, rfl⟩ := h
       obtain ⟨Ft, Fo, hle, ht, ho⟩ := hh
       obtain ⟨F1, F2, _, hrp, _⟩ := x06 σ.tm Ft t _ hl ht
       obtain ⟨_, b, cap, hres, hv⟩ := hrp
       obtain ⟨F3, F4, hle2, hO, hob⟩ := y0k σ.ob Fo id o hlo ho
       rcases hO with ⟨_, hnil⟩ | ⟨b', cap', cur, F', hl2, hb, hlen, hcm, hsz, hrows, rfl⟩
       ·rw [hnil] at hxs; cases hxs
       ·have hbb : b = b' := by
         simp only [resF] at hres
         rw [hres] at hl2; injection hl2 with h; injection h
        subst hbb
        rw [hxs] at hrows
        simp only [List.length_singleton, Nat.one_mul, z09] at hrows
        obtain ⟨v1, v2, G1, G2, hvs, hrl, rfl, hrow, rfl, rfl⟩ := hrows
        rw [List.append_nil] at hvs
        have hvl := y02 hrow
        have hrun : (loadVar ty ⟨b, 0, none⟩).run P w = .ok (if ag then .agg v1.toArray else v1.getD 0 undef) w :=
         v07 hs ha h1 b 0 v1 (by rw [hvl, hn]) (fun j v hj => by
          rw [y09 hb, Nat.zero_add]
          rw [← hvs] at hj
          exact w0f hj)
        have hv' : tmps.getD t undef = .pointer (some ⟨b, 0, none⟩) := by simpa using hv
        refine ⟨_, v1, N, F, G1, ?_, rfl, fun h => by rw [hn]; exact h1 h, hrow, hB, ⟨Ft, F4, fun x => ?_, ht, hob⟩, Fr.refl ..⟩
        ·simp only [z15, hv', asAddr, Sem.run_bind, Sem.run_pure, Result.andThen_ok, hrun]
        ·have h3 := hle x; have h4 := hle2 x; simp only [add, fz] at *; omega
theorem i0r : ∀ {rs : List RV} {ros : List ResultVar} {xs : List (Bool × List C)} {σ σ1 : St} {N : Nat → Prop} {F G : Fp}, q0f σ rs = some (xs, σ1) → RL P rs ros → Base w N F → Hold w N lc σ tmps F G →
 ∃ (gs : List Value) (N' : Nat → Prop) (F' G' : Fp), (ros.mapM (z15 tmps)).run P w = .ok gs w ∧ gs.length = ros.length ∧ v0z w N' lc xs gs G' ∧ u0g (fun _ _ => true) xs = false ∧ Base w N' F' ∧ Hold w N' lc σ1 tmps F' (add G G') ∧ Fr w F N lc w F' N' lc
 | [], ros, xs, σ, σ1, N, F, G, h, hx, hB, hh => by
   cases ros with
   | cons => exact hx.elim
   | nil =>
     simp only [q0f, Option.some.injEq, Prod.mk.injEq] at h
     obtain ⟨rfl, rfl⟩ := h
     exact ⟨[], N, F, fz, by simp, rfl, ⟨rfl, rfl⟩, rfl, hB, by rw [z0j]; exact hh, Fr.refl ..⟩
 | r :: rs, ros, xs, σ, σ1, N, F, G, h, hx, hB, hh => by
   cases ros with
   | nil => exact hx.elim
   | cons ro ros =>
     simp only [q0f] at h
     split at h
     case h_2 => cases h
     rename_i x σ2 h1
     split at h
     case h_2 => cases h
     rename_i xs2 σ3 h2
     simp only [Option.some.injEq, Prod.mk.injEq] at h
     obtain ⟨rfl, rfl⟩ := h
     obtain ⟨g, vs, N1, F1, G1, k1, k2, k3, k4, k5, k6, k7⟩ := y1g h1 hx.1 hB hh
     obtain ⟨gs, N2, F2, G2, j1, jl, j2, j3, j4, j5, j6⟩ := i0r h2 hx.2 k5 k6
     obtain ⟨ag, cs⟩ := x
     have hrow : z0b w N2 cs vs G1 := y0i cs vs G1 (fun _ _ => rfl) j6.nn k4
     refine ⟨g :: gs, N2, F2, add G1 G2, ?_, by simp [jl], ⟨g, gs, G1, G2, rfl, rfl, ?_, j2⟩, ?_, j4, by rw [← add_assoc]; exact j5, k7.trans j6⟩
     ·rw [List.mapM_cons]
      simp only [Sem.run_bind, k1, Result.andThen_ok, j1, Sem.run_pure]
     ·cases ag with
      | true => exact ⟨vs, k2, s0o hrow⟩
      | false =>
        have hl := k3 rfl
        match cs, hl with
        | [c], _ =>
          simp only [z0b] at hrow
          obtain ⟨v, vs', H1, H2, rfl, rfl, m1, rfl, rfl⟩ := hrow
          simp only [Bool.false_eq_true, if_false]
          refine ⟨c, rfl, ?_⟩
          rw [z0j, k2]
          exact v0w m1
     ·simp only [u0g, j3, Bool.or_false]
      exact e0n hrow
theorem e0l {fn : Func} {ros : List ResultVar} (h : fn.results = ros.toArray) {gs : List Value} (hg : (ros.mapM (z15 tmps)).run P w = .ok gs w) :
 (results fn tmps).run P w = .ok (if h : gs.toArray.size = 1 then gs.toArray[0] else .tuple gs.toArray) w := by
 have hfun : results fn tmps = (fn.results.mapM (z15 tmps) >>= fun vs => pure (if h : vs.size = 1 then vs[0] else .tuple vs)) := by
  unfold results
  first | rfl | (congr 1; congr 1; funext x; cases x <;> rfl)
 rw [hfun, h, Array.mapM_eq_mapM_toList]
 simp only [List.toList_toArray]
 simp only [Sem.run_bind, Sem.run_map, hg, Result.andThen_ok, Sem.run_pure]
theorem c09 {lc1 : Loc} : ∀ {args : List A} {gs : List Value} {G : Fp}, (∀ a ∈ args, a.ref inR = false) → (∀ id, 1000 ≤ id → lc1 id = lc id) → x0e w N lc args gs G → x0e w N lc1 args gs G
 | [], _, _, _, _, h => h
 | a :: as, _, _, hin, hl, ⟨g, gs', F1, F2, hg, hF, h1, h2⟩ => by
   refine ⟨g, gs', F1, F2, hg, hF, w0e (p := inR) a g F1 (fun _ _ => rfl) (fun _ h => h) (fun id st hp x hx => ?_) (hin a (List.mem_cons_self ..)) h1, c09 (fun a ha => hin a (List.mem_cons_of_mem _ ha)) hl h2⟩
   have : 1000 ≤ id := by simpa [inR] using hp
   rw [hl id this]; exact hx
theorem d0o : ∀ {args : List A} {gs : List Value} {i : Nat} {σ : St} {lc : Loc} {G : Fp}, x0e w N lc args gs G → (∀ a ∈ args, a.ref inR = false) → (∀ j v, gs[j]? = some v → tmps[i + j]? = some v) → i + args.length ≤ 1000 → Hold w N lc σ tmps F G →
 ∃ lc', (∀ id, 1000 ≤ id → lc' id = lc id) ∧ Hold w N lc' (q08 i args σ) tmps F fz
 | [], gs, i, σ, lc, G, h, _, _, _, hh => by
   obtain ⟨_, rfl⟩ := h
   exact ⟨lc, fun _ _ => rfl, hh⟩
 | a :: as, _, i, σ, lc, _, ⟨g, gs', F1, F2, rfl, rfl, h1, h2⟩, hin, ht, hi, hh => by
   have hti : tmps[i]? = some g := by simpa using ht 0 g rfl
   have hlt : i < tmps.size := (Array.getElem?_eq_some_iff.1 hti).1
   simp only [List.length_cons] at hi
   have hh' : Hold w N lc σ tmps F (add F2 F1) := by rw [add_comm]; exact hh
   obtain ⟨lc1, hl1, hH1⟩ := d0x (d := i) hlt (by omega) h1 hh'
   have hsame : tmps.setIfInBounds i g = tmps := by
    apply Array.ext'
    apply List.ext_getElem?
    intro k
    rw [Array.toList_setIfInBounds, List.getElem?_set]
    split
    ·rename_i hk
     subst hk
     split
     ·rw [Array.getElem?_toList]; exact hti.symm
     ·rename_i hn; rw [List.getElem?_eq_none (by omega)]
    ·rfl
   rw [hsame] at hH1
   have h2' : x0e w N lc1 as gs' F2 := by
    exact c09 (fun a ha => hin a (List.mem_cons_of_mem _ ha)) hl1 h2
   obtain ⟨lc2, hl2, hH2⟩ := d0o h2' (fun a ha => hin a (List.mem_cons_of_mem _ ha)) (fun j v hj => by have := ht (j + 1) v (by simpa using hj); rwa [show i + 1 + j = i + (j + 1) from by omega]) (by omega) hH1
   exact ⟨lc2, fun id hid => (hl2 id hid).trans (hl1 id hid), hH2⟩
theorem j0p {f : FuncId} {fn : Func} {c : Code} {k : K} {rs : List RV} {ros : List ResultVar} {args : List A} {H : List (Nat × Obj)} {R : A → List (Nat × Obj) → Prop} (hf : P.funcs[f]? = some fn) (hb : fn.body = some c) (hc : CK P fn.ntmps c k)
 (hros : fn.results = ros.toArray) (hrs : RL P rs ros) (hnp : args.length ≤ fn.ntmps) (hnp2 : args.length ≤ 1000)
 (h : awp P k (t0s rs R) (n0c args H)) : CallsA P f args H R := by
 intro w N lc gs F Fa Fo hB hle hin ha hH
 have hgl : gs.length = args.length := by
  have : ∀ {as : List A} {gs : List Value} {G : Fp}, x0e w N lc as gs G → gs.length = as.length := by
   intro as
   induction as with
   | nil => intro gs G h; simp [h.1]
   | cons a as ih => intro gs G ⟨g, gs', F1, F2, hg, _, _, h2⟩; subst hg; simp [ih h2]
  exact this ha
 refine calls_of_wp hf hb ?_
 let tmps : Array Value := gs.toArray ++ Array.replicate (fn.ntmps - gs.toArray.size) undef
 have hsz : tmps.size = fn.ntmps := by simp [tmps]; omega
 have hget : ∀ j v, gs[j]? = some v → tmps[0 + j]? = some v := by
  intro j v hj
  have hlt : j < gs.length := (List.getElem?_eq_some_iff.1 hj).1
  simp only [tmps, Nat.zero_add]
  rw [Array.getElem?_append_left (by simpa using hlt)]
  simpa using hj
 have h0 : Hold w N lc { tm := [], ob := H } tmps F Fa := ⟨fz, Fo, fun b => by have := hle b; simp only [fz]; omega, rfl, hH⟩
 obtain ⟨lc1, hl1, hH1⟩ := d0o ha hin hget (by omega) h0
 have hsr : SR w F N lc fn.ntmps (n0c args H) { tmps := tmps, defers := [] } w := by
  refine ⟨rfl, hsz, N, lc1, F, hB, hH1, ⟨rfl, rfl, rfl, Nat.le_refl _, fun _ _ _ => rfl, fun _ h => .inl h, fun _ h => h, fun _ h => .inl h, hl1⟩⟩
 refine wp_mono (j17 hc h hsr) fun e a w' ⟨x, σ, hx, hq, hs⟩ => ?_
 have fin : (∃ xs σ1, q0f σ rs = some (xs, σ1) ∧ R (k02 xs) (outs σ1.ob)) → a.defers = [] ∧ ∃ v, (results fn a.tmps).run P w' = .ok v w' ∧ ∃ (g : Value) (r : A) (H' : List (Nat × Obj)) (N' : Nat → Prop) (lc' : Loc) (F' Fr' Fo' : Fp), Ending.returned v = .returned g ∧ R r H' ∧ Base w' N' F' ∧ repA w' N' lc' r g Fr' ∧ y05 w' N' lc' H' Fo' ∧
  (∀ b, Fr' b + Fo' b ≤ F' b) ∧ r.ref (fun _ _ => true) = false ∧ Fr w F N lc w' F' N' lc' := by
  rintro ⟨xs, σ1, hra, hR⟩
  obtain ⟨h1, h2, N1, lc2, F1, hB1, hh, hFr⟩ := hs
  obtain ⟨gs', N2, F2, G2, k1, kl, k2, k3, k4, ⟨Ft, Fo2, hle2, _, hob⟩, k6⟩ := i0r hra hrs hB1 hh
  obtain ⟨Fo3, hle3, hob3⟩ := v17 σ1.ob Fo2 hob
  refine ⟨h1, _, e0l hros k1, _, k02 xs, outs σ1.ob, N2, lc2, F2, G2, Fo3, rfl, hR, k4, ?_, hob3, fun b => ?_, ?_, hFr.trans k6⟩
  ·match xs, k2 with
   | [], hk2 =>
     obtain ⟨rfl, rfl⟩ := hk2
     exact ⟨[], by simp, rfl, rfl⟩
   | [(ag, cs)], ⟨g, gs'', H1, H2, hg, hF, hone, hnil⟩ =>
     obtain ⟨rfl, rfl⟩ := hnil
     subst hg
     subst hF
     rw [z0j]
     simp only [k02]
     cases ag with
     | true => obtain ⟨vs, hv, hrow⟩ := hone; simp; exact ⟨vs, hv, hrow⟩
     | false => obtain ⟨c, rfl, hrow⟩ := hone; simp; exact hrow
   | (ag, cs) :: y :: ys, hk2 =>
     have hne : gs'.length ≠ 1 := by
      obtain ⟨g, gs'', H1, H2, hg, hF, hone, ⟨g2, gs3, _, _, hg2, _⟩⟩ := hk2
      subst hg; subst hg2; simp
     simp only [k02]
     rw [dif_neg (by simpa using hne)]
     exact ⟨gs', rfl, hk2⟩
  ·have := hle2 b; have := hle3 b; simp only [add, fz] at *; omega
  ·match xs with
   | [] => rfl
   | [(ag, cs)] =>
     simp only [u0g, Bool.or_false] at k3
     simp only [k02, mkA]
     cases ag with
     | true => exact k3
     | false =>
       simp only [Bool.false_eq_true, if_false]
       match cs with
       | [] => rfl
       | [c] => show c.ref _ = false; simpa [x0a] using k3
       | _ :: _ :: _ => rfl
   | (ag, cs) :: y :: ys => exact k3
 cases e with
 | normal =>
   injection hx with hx
   subst hx
   exact fin hq
 | ret =>
   injection hx with hx
   subst hx
   exact fin hq
 | exit i =>
   injection hx with hx
   subst hx
   exact hq.elim
 | _ => cases hx
end
end Go.Am
namespace Go.Am
structure TI where
 d : TypeDesc
 n : Nat
 b : Nat
 z : Value
 q : Bool
def TOK1 (P : Program) (t : Nat) (ti : TI) : Prop :=
 P.underlying t = some ti.d ∧ (P.info? t).map (fun i => (i.zero, i.size, i.bytes)) = some (some ti.z, ti.n, ti.b) ∧ (ti.q = true → P.stoodInHeld t = false ∧ P.eqGuardType P.depth t = false)
def TOK (P : Program) : List (Nat × TI) → Prop
 | [] => True
 | (t, ti) :: r => TOK1 P t ti ∧ TOK P r
def FOK1 (P : Program) (f : Nat) : Prop := (P.funcs[f]?).map (fun fn => (fn.name == "runtime.NumGoroutine", fn.body.isNone)) = some (false, false)
def FOK (P : Program) : List Nat → Prop
 | [] => True
 | f :: r => FOK1 P f ∧ FOK P r
theorem z0p {P : Program} : ∀ {T : List (Nat × TI)} {t : Nat} {ti : TI}, TOK P T → look T t = some ti → TOK1 P t ti
 | [], _, _, _, h => by simp [look] at h
 | (k, a) :: r, t, ti, hT, h => by
   simp only [look] at h
   split at h
   ·rename_i hk; injection h with h; subst hk; subst h; exact hT.1
   ·exact z0p hT.2 h
theorem u0o {P : Program} {t : Nat} {ti : TI} (h : TOK1 P t ti) : ∃ i, P.info? t = some i ∧ i.size = ti.n ∧ i.bytes = ti.b ∧ i.zero = some ti.z := by
 obtain ⟨_, h, _⟩ := h
 cases hi : P.info? t with
 | none => rw [hi] at h; simp at h
 | some i =>
   rw [hi] at h
   simp only [Option.map_some, Option.some.injEq, Prod.mk.injEq] at h
   exact ⟨i, rfl, h.2.1, h.2.2, h.1⟩
theorem f02 {P : Program} : ∀ {fs : List Nat} {f : Nat}, FOK P fs → f ∈ fs → FOK1 P f
 | [], _, _, h => by cases h
 | g :: r, f, hF, h => by
   rcases List.mem_cons.1 h with rfl | h
   ·exact hF.1
   ·exact f02 hF.2 h
def cV (T : List (Nat × TI)) (ty : Nat) : Value → Option C
 | .int k n => some (.int k n)
 | .bool b => some (.bool b)
 | .string s => some (.str s)
 | .pointer none => some .np
 | .slice none 0 0 => match look T ty with
   | some ti => match ti.d with
     | .slice el => match look T el with
       | some ei => some (.ar true el ei.n [])
       | none => none
     | _ => none
   | none => none
 | _ => none
def cX (T : List (Nat × TI)) (ty : Nat) : Operand → Option X
 | .tmp t => some (.t t)
 | .const v => (cV T ty v).map .c
 | .func f => some (.c (.fn f []))
 | .global _ => none
theorem cV_ok {T : List (Nat × TI)} {ty : Nat} {v : Value} {c : C} (h : cV T ty v = some c) (w : World) (N : Nat → Prop) : repC w N c v fz := by
 unfold cV at h
 split at h
 ·injection h with h; subst h; exact ⟨rfl, rfl⟩
 ·injection h with h; subst h; exact ⟨rfl, rfl⟩
 ·injection h with h; subst h; exact ⟨rfl, rfl⟩
 ·injection h with h; subst h; exact ⟨rfl, rfl⟩
 ·split at h
  ·split at h
   ·split at h
    ·injection h with h; subst h
     simp [repC]
    ·cases h
   ·cases h
  ·cases h
 ·cases h
theorem y0m {T : List (Nat × TI)} {ty : Nat} {o : Operand} {x : X} (h : cX T ty o = some x) : XOf x o := by
 unfold cX at h
 split at h
 ·injection h with h; subst h; exact rfl
 ·rename_i v
  cases hv : cV T ty v with
  | none => rw [hv] at h; simp at h
  | some c =>
    rw [hv] at h
    simp only [Option.map_some, Option.some.injEq] at h
    subst h
    intro w N lc a
    exact v0w (cV_ok hv w N)
 ·injection h with h; subst h
  intro w N lc a
  exact ⟨rfl, [], rfl, rfl, rfl⟩
 ·cases h
def cXs (T : List (Nat × TI)) : List Nat → List Operand → Option (List X)
 | _, [] => some []
 | [], _ => none
 | t :: ts, o :: os => match cX T t o, cXs T ts os with
   | some x, some xs => some (x :: xs)
   | _, _ => none
theorem s0g {T : List (Nat × TI)} : ∀ {ts : List Nat} {os : List Operand} {xs : List X}, cXs T ts os = some xs → XL xs os
 | ts, [], xs, h => by
   have : xs = [] := by cases ts <;> simpa [cXs] using h.symm
   subst this; trivial
 | [], o :: os, xs, h => by simp [cXs] at h
 | t :: ts, o :: os, xs, h => by
   simp only [cXs] at h
   split at h
   case h_2 => cases h
   rename_i x xs' h1 h2
   injection h with h
   subst h
   exact ⟨y0m h1, s0g h2⟩
def cO (T : List (Nat × TI)) (ty : Nat) : Option Operand → Option (Option X)
 | none => some none
 | some o => (cX T ty o).map some
theorem t1a {T : List (Nat × TI)} {ty : Nat} {o : Option Operand} {x : Option X} (h : cO T ty o = some x) : XO x o := by
 cases o with
 | none => simp only [cO, Option.some.injEq] at h; subst h; trivial
 | some o =>
   simp only [cO] at h
   cases hx : cX T ty o with
   | none => rw [hx] at h; simp at h
   | some y =>
     rw [hx] at h
     simp only [Option.map_some, Option.some.injEq] at h
     subst h
     exact y0m hx
def z1j (g : Nat → Option (List C)) : List Field → Option (List C)
 | [] => some []
 | f :: fs => match g f.type, z1j g fs with
   | some a, some b => some (a ++ b)
   | _, _ => none
def zC (T : List (Nat × TI)) : Nat → Nat → Option (List C)
 | 0, _ => none
 | d + 1, t => match look T t with
   | some ti => match ti.d with
     | .int k => some [.int k 0]
     | .bool => some [.bool false]
     | .string => some [.str ⟨#[]⟩]
     | .pointer _ => some [.np]
     | .slice el => match look T el with
       | some ei => some [.ar true el ei.n []]
       | none => none
     | .struct fs => z1j (zC T d) fs.toList
     | .array n e => match zC T d e with
       | some z => some (List.replicate n z).flatten
       | none => none
     | _ => none
   | none => none
def zEq : C → Value → Bool
 | .int k n, .int k' n' => k == k' && n == n'
 | .bool b, .bool b' => b == b'
 | .str s, .string s' => s.data == s'.data
 | .np, .pointer none => true
 | .ar true _ _ [], .slice none 0 0 => true
 | _, _ => false
def zEqs : List C → List Value → Bool
 | [], [] => true
 | c :: cs, v :: vs => zEq c v && zEqs cs vs
 | _, _ => false
theorem i1z {c : C} {v : Value} (h : zEq c v = true) (w : World) (N : Nat → Prop) : repC w N c v fz := by
 unfold zEq at h
 split at h
 ·simp only [Bool.and_eq_true, beq_iff_eq] at h; obtain ⟨rfl, rfl⟩ := h; exact ⟨rfl, rfl⟩
 ·simp only [beq_iff_eq] at h; subst h; exact ⟨rfl, rfl⟩
 ·rename_i s s'
  simp only [beq_iff_eq] at h
  have : s = s' := by cases s; cases s'; simp only at h; rw [h]
  subst this; exact ⟨rfl, rfl⟩
 ·exact ⟨rfl, rfl⟩
 ·simp [repC]
 ·cases h
theorem l0x : ∀ {cs : List C} {vs : List Value}, zEqs cs vs = true → ∀ (w : World) (N : Nat → Prop), z0b w N cs vs fz
 | [], [], _, w, N => ⟨rfl, rfl⟩
 | c :: cs, v :: vs, h, w, N => by
   have h : zEq c v = true ∧ zEqs cs vs = true := Bool.and_eq_true_iff.1 h
   exact ⟨v, vs, fz, fz, rfl, (z0j _).symm, i1z h.1 w N, l0x h.2 w N⟩
 | [], _ :: _, h, _, _ => by cases h
 | _ :: _, [], h, _, _ => by cases h
def plL (T : List (Nat × TI)) : List Field → Option (List (Nat × Nat))
 | [] => some []
 | f :: fs => match look T f.type, plL T fs with
   | some fi, some r => some ((f.offset, fi.n) :: r)
   | _, _ => none
def plF (T : List (Nat × TI)) : TypeDesc → Option (Nat → Option (Nat × Nat))
 | .struct fs => (plL T fs.toList).map fun l i => l.toArray[i]?
 | .array _ el => (look T el).map fun ei i => some (i * ei.n, ei.n)
 | _ => none
def elT (d : TypeDesc) (i : Nat) : Nat :=
 match d with
 | .struct fs => match fs[i]? with
   | some f => f.type
   | none => 0
 | .array _ el => el
 | _ => 0
def cPs (T : List (Nat × TI)) (d : TypeDesc) (pl : Nat → Option (Nat × Nat)) : List (Nat × Operand) → Option (List (Nat × Nat × X))
 | [] => some []
 | (i, o) :: r => match pl i, cX T (elT d i) o, cPs T d pl r with
   | some (off, n), some x, some xs => some ((off, n, x) :: xs)
   | _, _, _ => none
def h06 : List (Nat × Operand) → Nat → Option (List Operand)
 | [], _ => some []
 | (i, o) :: r, k => if i = k then (h06 r (k + 1)).map (o :: ·) else none
structure An where
 keep : List (Nat × (List Nat × List Nat))
 fz : Bool
 mo : Bool
 rf : List (Nat × Nat)
 bs : Bool
 gf : List (Nat × Nat)
 nf : List (Nat × List Nat) := []
 zf : List (Nat × List Nat) := []
 fb : Bool := false
 fa : Bool := false
 rz : List Nat := []
def z1i (T : List (Nat × TI)) : List Field → Nat → Option (List Bool)
 | [], _ => some []
 | f :: r, i => if f.name = "_" then none else if f.offset = i then
     match (look T f.type).map (·.d), z1i T r (i + 1) with
     | some (TypeDesc.int _), some ks => some (false :: ks)
     | some TypeDesc.string, some ks => some (true :: ks)
     | _, _ => none
   else none
def sqK (T : List (Nat × TI)) (t : Nat) (fs : Array Field) : Option (List Bool) :=
 match (look T t).map (·.q) with
 | some true => z1i T fs.toList 0
 | _ => none
def e0o (xs : List X) : List Nat → List Nat
 | [] => []
 | j :: js => match xs[j]? with
   | some (X.t n) => n :: e0o xs js
   | _ => e0o xs js
def cmpI (T : List (Nat × TI)) (fs : List Nat) (an : An) (o : Oper) : Option I :=
 match o.op with
 | .move x => (cX T o.type x).map .mv
 | .assign x => (cX T o.type x).map (fun x => if an.fa then .asf x else .asn x)
 | .pick c a b => match cX T 0 c, cX T o.type a, cX T o.type b with
   | some c, some a, some b => some (.pick c a b)
   | _, _, _ => none
 | .binOp op t x y _ => match cX T t x, cX T t y with
   | some x, some y => match op, (look T t).map (·.d) with
     | .eql, some TypeDesc.bool => some (.beq false x y)
     | .neq, some TypeDesc.bool => some (.beq true x y)
     | .eql, some (TypeDesc.struct fs) => match sqK T t fs with
       | some ks => some (.sqe false ks x y)
       | none => some (.bin .eql x y)
     | .neq, some (TypeDesc.struct fs) => match sqK T t fs with
       | some ks => some (.sqe true ks x y)
       | none => some (.bin .neq x y)
     | op, _ => some (.bin op x y)
   | _, _ => none
 | .unOp .not _ x => (cX T 0 x).map .not
 | .unOp .neg _ x => (cX T 0 x).map .neg
 | .convert s d x => match look T s, look T d, cX T s x with
   | some si, some di, some x => match si.d, di.d with
     | .int _, .int k => some (.conv k x)
     | .slice e, .string => match (look T e).map (·.d) with
       | some (TypeDesc.int .u8) => some (.b2s x)
       | _ => none
     | _, _ => none
   | _, _, _ => none
 | .extract (.tmp n) i => some (.ext i (.t n))
 | .field t x f => match look T t, cX T t x with
   | some ti, some x => match ti.d with
     | .struct fs => match fs[f]? with
       | some fl => match look T fl.type with
         | some fi => if aggD fi.d || fi.n == 1 then some (.fld fl.offset fi.n (aggD fi.d) x) else none
         | none => none
       | none => none
     | _ => none
   | _, _ => none
 | .index t x i => match look T t, cX T t x, cX T 0 i with
   | some ti, some x, some i => match ti.d with
     | .string => some (.idx x i)
     | .array m el => match look T el with
       | some ei => if aggD ei.d || ei.n == 1 then some (.idxa m ei.n (aggD ei.d) x i) else none
       | none => none
     | _ => none
   | _, _, _ => none
 | .nilCheck x => (cX T 0 x).map .nil
 | .makeFunc (.func f) first captured => match first.toList with
   | [] => (cXs T (List.replicate captured.toList.length 0) captured.toList).map (.mkf f)
   | _ => none
 | .build t parts => match look T t, zC T 12 t with
   | some ti, some z => match plF T ti.d with
     | some pl => match cPs T ti.d pl parts.toList with
       | some ps => if zEqs z ti.z.cells.toList then some (.bld an.fb z ps) else none
       | none => none
     | none => none
   | _, _ => none
 | .fieldAddr t x f => match look T t, cX T 0 x with
   | some ti, some x => match ti.d with
     | .struct fs => match fs[f]? with
       | some fl => match look T fl.type with
         | some fi => if fi.n ≠ 0 then some (.fad fl.offset x) else none
         | none => none
       | none => none
     | _ => none
   | _, _ => none
 | .indexAddr t x i => match look T t, cX T t x, cX T 0 i with
   | some ti, some x, some i => match ti.d with
     | .slice el => match look T el with
       | some ei => some (.iad ei.n x i)
       | none => none
     | .array m el => match look T el with
       | some ei => some (.iaa m ei.n x i)
       | none => none
     | _ => none
   | _, _, _ => none
 | .load t p => match look T t, cX T 0 p with
   | some ti, some p => if aggD ti.d || ti.n == 1 then some (.ld ti.n (aggD ti.d) p) else none
   | _, _ => none
 | .slice t x lo hi none => match look T t, cX T t x, cO T 0 lo, cO T 0 hi with
   | some ti, some x, some lo, some hi => match ti.d with
     | .slice el => match look T el with
       | some ei => some (.slc ei.n x lo hi)
       | none => none
     | .string => some (.sls x lo hi)
     | _ => none
   | _, _, _, _ => none
 | .box t x => match look T t, cX T t x with
   | some ti, some x => some (if an.bs then .boxs ti.n x else .box t ti.n x)
   | _, _ => none
 | .alloc t => match look T t, zC T 12 t with
   | some ti, some z => if zEqs z ti.z.cells.toList && z.length == ti.n then some (.alc t ti.n z) else none
   | _, _ => none
 | .store t p v => match look T t, cX T 0 p, cX T t v with
   | some ti, some p, some v => some (.st ti.n an.fz p v)
   | _, _, _ => none
 | .buildSlice t n parts => match look T t with
   | some ti => match ti.d with
     | .slice el => match look T el, h06 parts.toList 0 with
       | some ei, some os => match cXs T (List.replicate os.length el) os with
         | some xs => if os.length = n ∧ n ≤ 4096 ∧ ei.n ≤ 4096 ∧ ei.z.cells.size = ei.n then some (.bls el ei.n an.fz xs) else none
         | none => none
       | _, _ => none
     | _ => none
   | none => none
 | .makeSlice t l c => match look T t, cX T 0 l, cX T 0 c with
   | some ti, some l, some c => match ti.d with
     | .slice el => match look T el, zC T 12 el with
       | some ei, some z => if zEqs z ei.z.cells.toList && z.length == ei.n && decide (ei.b ≤ 16384) && decide (0 < ei.n) then some (.mks el ei.n ei.b z l c) else none
       | _, _ => none
     | _ => none
   | _, _, _ => none
 | .call c => match c.callee with
   | .value (.func f) => match cXs T c.argTypes.toList c.args.toList with
     | some xs => if fs.contains f then (match look an.rf f with
        | some p => match look an.zf f with
          | some js => (xs[p]?).map fun x => .callzr f (e0o xs js) x xs
          | none => (xs[p]?).map fun x => .callr f x xs
        | none => match look an.gf f with
          | some k => some (.callo f k xs)
          | none => match look an.nf f with
            | some js => some (.calln f js xs)
            | none => match look an.zf f with
              | some js => some (.callz f (e0o xs js) xs)
              | none => some (if an.rz.contains f then .callf f xs else .call f xs)) else none
     | none => none
   | .value (.tmp t) => (cXs T c.argTypes.toList c.args.toList).map fun xs => .callv (.t t) xs
   | .builtin .len => match c.args.toList, c.argTypes.toList with
     | [x], [t] => match look T t, cX T t x with
       | some ti, some x => match ti.d with
         | .slice _ => some (.len x)
         | .string => some (.lns x)
         | _ => none
       | _, _ => none
     | _, _ => none
   | .builtin .max => match c.args.toList with
     | [x, y] => match cX T 0 x, cX T 0 y with
       | some x, some y => some (.mnx true x y)
       | _, _ => none
     | _ => none
   | .builtin .min => match c.args.toList with
     | [x, y] => match cX T 0 x, cX T 0 y with
       | some x, some y => some (.mnx false x y)
       | _, _ => none
     | _ => none
   | .builtin .append => match c.args.toList, c.argTypes.toList with
     | [s, x], [t, t'] => match look T t, cX T t s, cX T t x with
       | some ti, some s, some x => match ti.d with
         | .slice el => match look T el with
           | some ei => if t = t' ∧ ei.b ≤ 16384 ∧ ei.z.cells.size = ei.n ∧ 0 < ei.n then some (.app el ei.n ei.b an.fz s x) else none
           | none => none
         | _ => none
       | _, _, _ => none
     | _, _ => none
   | _ => none
 | _ => none
end Go.Am
namespace Go.Am
section
variable {P : Program} {T : List (Nat × TI)} {fs : List Nat} {an : An}
theorem y06 {α β : Type} {f : α → β} {x : Option α} {y : β} (h : x.map f = some y) : ∃ a, x = some a ∧ f a = y := by
 cases x with
 | none => simp at h
 | some a => exact ⟨a, rfl, by simpa using h⟩
theorem j0n : ∀ {ps : List (Nat × Operand)} {k : Nat} {os : List Operand}, h06 ps k = some os → ps = (os.zipIdx k).map fun (o, i) => (i, o)
 | [], k, os, h => by
   simp only [h06, Option.some.injEq] at h
   subst h; rfl
 | (i, o) :: r, k, os, h => by
   simp only [h06] at h
   split at h
   case isFalse => cases h
   rename_i hik
   subst hik
   obtain ⟨os', h1, rfl⟩ := y06 h
   rw [j0n h1]
   simp [List.zipIdx_cons]
theorem u0v {t : Nat} {ti : TI} (h : TOK1 P t ti) : t07 P t ti.n := by
 obtain ⟨i, h1, h2, _⟩ := u0o h
 exact ⟨i, h1, h2⟩
theorem c0s {t : Nat} {ti : TI} (h : TOK1 P t ti) : a0f P t (aggD ti.d) := ⟨ti.d, h.1, rfl⟩
theorem s1f (hT : TOK P T) : ∀ {fs : List Field} {ps : List (Nat × Nat)}, plL T fs = some ps → fs.mapM (fun f => (P.info? f.type).map fun i => (f.offset, i.size)) = some ps
 | [], ps, h => by simp only [plL, Option.some.injEq] at h; subst h; rfl
 | f :: fs, ps, h => by
   simp only [plL] at h
   split at h
   case h_2 => cases h
   rename_i fi r hf hr
   injection h with h; subst h
   obtain ⟨i, h1, h2, _⟩ := u0o (z0p hT hf)
   simp [List.mapM_cons, h1, h2, s1f hT hr]
theorem k09 (hT : TOK P T) : ∀ {fs : List Field} {i : Nat} {ks : List Bool}, z1i T fs i = some ks → b0k P fs ks i
 | [], i, ks, h => by simp only [z1i, Option.some.injEq] at h; subst h; trivial
 | f :: r, i, ks, h => by
   simp only [z1i] at h
   split at h
   ·cases h
   rename_i hn
   split at h
   case isFalse => cases h
   rename_i hoff
   split at h
   ·rename_i k ks' hd hr
    injection h with h; subst h
    obtain ⟨ti, h3, h4⟩ := y06 hd
    exact ⟨hn, hoff, by simpa using ⟨k, by rw [(z0p hT h3).1, h4]⟩, k09 hT hr⟩
   ·rename_i ks' hd hr
    injection h with h; subst h
    obtain ⟨ti, h3, h4⟩ := y06 hd
    exact ⟨hn, hoff, by simpa using (by rw [(z0p hT h3).1, h4]), k09 hT hr⟩
   ·cases h
theorem s17 (hT : TOK P T) {t : Nat} {fs : Array Field} {ks : List Bool} (h : sqK T t fs = some ks) : b0k P fs.toList ks 0 ∧ P.stoodInHeld t = false ∧ P.eqGuardType P.depth t = false := by
 unfold sqK at h
 split at h
 ·rename_i hq
  obtain ⟨ti, h3, h4⟩ := y06 hq
  exact ⟨k09 hT h, (z0p hT h3).2.2 h4⟩
 ·cases h
theorem g17 (hT : TOK P T) {t : Nat} {d : TypeDesc} {pl : Nat → Option (Nat × Nat)} (hu : P.underlying t = some d) (h : plF T d = some pl) : w1n P t pl := by
 unfold plF at h
 split at h
 ·rename_i fs
  obtain ⟨l, h1, rfl⟩ := y06 h
  exact .inl ⟨fs, l, hu, s1f hT h1, fun _ => rfl⟩
 ·rename_i n el
  obtain ⟨ei, h1, rfl⟩ := y06 h
  exact .inr ⟨n, el, ei.n, hu, u0v (z0p hT h1), fun _ => rfl⟩
 ·cases h
theorem s14 {d : TypeDesc} {pl : Nat → Option (Nat × Nat)} : ∀ {ps : List (Nat × Operand)} {ps' : List (Nat × Nat × X)}, cPs T d pl ps = some ps' → PL pl ps' ps
 | [], ps', h => by simp only [cPs, Option.some.injEq] at h; subst h; trivial
 | (i, o) :: r, ps', h => by
   simp only [cPs] at h
   split at h
   case h_2 => cases h
   rename_i off n x xs h1 h2 h3
   injection h with h; subst h
   exact ⟨h1, y0m h2, s14 h3⟩
theorem q1q (hT : TOK P T) (hF : FOK P fs) {o : Oper} {i : I} (h : cmpI T fs an o = some i) : IsV P o.op i ∨ IsM P o.op i ∨ IsC P o.op i := by
 obtain ⟨dst, op, ty, pos, after, guard⟩ := o
 simp only
 cases op with
 | move x =>
   simp only [cmpI] at h
   obtain ⟨y, h1, rfl⟩ := y06 h
   exact .inl (.mv (y0m h1))
 | assign x =>
   simp only [cmpI] at h
   obtain ⟨y, h1, rfl⟩ := y06 h
   split
   ·exact .inr (.inl (.asf (y0m h1)))
   ·exact .inr (.inl (.asn (y0m h1)))
 | pick c a b =>
   simp only [cmpI] at h
   split at h
   case h_2 => cases h
   rename_i h1 h2 h3
   injection h with h; subst h
   exact .inl (.pick (y0m h1) (y0m h2) (y0m h3))
 | binOp op t x y yt =>
   simp only [cmpI] at h
   split at h
   case h_2 => cases h
   rename_i h1 h2
   split at h
   ·rename_i ht
    injection h with h; subst h
    obtain ⟨ti, h3, h4⟩ := y06 ht
    exact .inl (.beq (y0m h1) (y0m h2) (by rw [(z0p hT h3).1, h4]))
   ·rename_i ht
    injection h with h; subst h
    obtain ⟨ti, h3, h4⟩ := y06 ht
    exact .inl (.bne (y0m h1) (y0m h2) (by rw [(z0p hT h3).1, h4]))
   ·rename_i ht
    obtain ⟨ti, h3, h4⟩ := y06 ht
    split at h
    ·rename_i ks hks
     injection h with h; subst h
     obtain ⟨q1, q2, q3⟩ := s17 hT hks
     exact .inl (.sqe (ne := false) (y0m h1) (y0m h2) (by rw [(z0p hT h3).1, h4]) q1 q2 q3)
    ·injection h with h; subst h
     exact .inl (.bin (y0m h1) (y0m h2))
   ·rename_i ht
    obtain ⟨ti, h3, h4⟩ := y06 ht
    split at h
    ·rename_i ks hks
     injection h with h; subst h
     obtain ⟨q1, q2, q3⟩ := s17 hT hks
     exact .inl (.sqe (ne := true) (y0m h1) (y0m h2) (by rw [(z0p hT h3).1, h4]) q1 q2 q3)
    ·injection h with h; subst h
     exact .inl (.bin (y0m h1) (y0m h2))
   ·injection h with h; subst h
    exact .inl (.bin (y0m h1) (y0m h2))
 | unOp op t x =>
   cases op with
   | not =>
     simp only [cmpI] at h
     obtain ⟨y, h1, rfl⟩ := y06 h
     exact .inl (.not (y0m h1))
   | neg =>
     simp only [cmpI] at h
     obtain ⟨y, h1, rfl⟩ := y06 h
     exact .inl (.neg (y0m h1))
   | _ => simp [cmpI] at h
 | convert s d x =>
   simp only [cmpI] at h
   split at h
   case h_2 => cases h
   rename_i si di x' hs hd hx
   split at h
   case h_3 => cases h
   ·rename_i k' k hsd hdd
    injection h with h; subst h
    have h1 := (z0p hT hs).1; have h2 := (z0p hT hd).1
    rw [hsd] at h1; rw [hdd] at h2
    exact .inl (.conv (y0m hx) h1 h2)
   ·rename_i e hsd hdd
    split at h
    case h_2 => cases h
    rename_i he
    injection h with h; subst h
    have h1 := (z0p hT hs).1; have h2 := (z0p hT hd).1
    rw [hsd] at h1; rw [hdd] at h2
    cases hl : look T e with
    | none => rw [hl] at he; simp at he
    | some te =>
      have h3 := (z0p hT hl).1
      rw [hl] at he
      simp only [Option.map_some, Option.some.injEq] at he
      rw [he] at h3
      exact .inl (.b2s (y0m hx) h1 h3 h2)
 | extract x n =>
   cases x with
   | tmp t =>
     simp only [cmpI, Option.some.injEq] at h
     subst h
     exact .inl (.ext rfl)
   | _ => simp [cmpI] at h
 | field t x f =>
   simp only [cmpI] at h
   split at h
   case h_2 => cases h
   rename_i ti x' ht hx
   split at h
   case h_2 => cases h
   rename_i fl0 hd
   split at h
   case h_2 => cases h
   rename_i fl hfl
   split at h
   case h_2 => cases h
   rename_i fi hfi
   split at h
   case isFalse => cases h
   rename_i hc
   injection h with h; subst h
   have h1 := (z0p hT ht).1
   rw [hd] at h1
   refine .inl (.fld (y0m hx) h1 hfl (u0v (z0p hT hfi)) (c0s (z0p hT hfi)) fun ha => ?_)
   simpa [ha] using hc
 | index t x i =>
   simp only [cmpI] at h
   split at h
   case h_2 => cases h
   rename_i ti x' i' ht hx hi
   have h1 := (z0p hT ht).1
   split at h
   ·rename_i hd
    injection h with h; subst h
    rw [hd] at h1
    exact .inl (.idx (y0m hx) (y0m hi) h1)
   ·rename_i m el hd
    rw [hd] at h1
    split at h
    case h_2 => cases h
    rename_i ei hei
    split at h
    case isFalse => cases h
    rename_i hc
    injection h with h; subst h
    exact .inl (.idxa (y0m hx) (y0m hi) h1 (u0v (z0p hT hei)) (c0s (z0p hT hei)) (fun ha => by simpa [ha] using hc))
   ·cases h
 | nilCheck x =>
   simp only [cmpI] at h
   obtain ⟨y, h1, rfl⟩ := y06 h
   exact .inl (.nil (y0m h1))
 | build t parts =>
   simp only [cmpI] at h
   split at h
   case h_2 => cases h
   rename_i ti z ht hz
   split at h
   case h_2 => cases h
   rename_i pl hpl
   split at h
   case h_2 => cases h
   rename_i ps hps
   split at h
   case isFalse => cases h
   rename_i hc
   injection h with h; subst h
   obtain ⟨i, k1, _, _, k4⟩ := u0o (z0p hT ht)
   have : parts = parts.toList.toArray := by simp
   rw [this]
   exact .inr (.inl (.bld k1 k4 (l0x hc) (g17 hT (z0p hT ht).1 hpl) (s14 hps)))
 | fieldAddr t x f =>
   simp only [cmpI] at h
   split at h
   case h_2 => cases h
   rename_i ti x' ht hx
   split at h
   case h_2 => cases h
   rename_i fl0 hd
   split at h
   case h_2 => cases h
   rename_i fl hfl
   split at h
   case h_2 => cases h
   rename_i fi hfi
   split at h
   case isFalse => cases h
   rename_i hc
   injection h with h; subst h
   have h1 := (z0p hT ht).1
   rw [hd] at h1
   exact .inl (.fad (y0m hx) h1 hfl (u0v (z0p hT hfi)) hc)
 | indexAddr t x i =>
   simp only [cmpI] at h
   split at h
   case h_2 => cases h
   rename_i ti x' i' ht hx hi
   split at h
   case h_3 => cases h
   ·rename_i el hd
    split at h
    case h_2 => cases h
    rename_i ei hei
    injection h with h; subst h
    have h1 := (z0p hT ht).1
    rw [hd] at h1
    exact .inl (.iad (y0m hx) (y0m hi) h1 (u0v (z0p hT hei)))
   ·rename_i m el hd
    split at h
    case h_2 => cases h
    rename_i ei hei
    injection h with h; subst h
    have h1 := (z0p hT ht).1
    rw [hd] at h1
    exact .inl (.iaa (y0m hx) (y0m hi) h1 (u0v (z0p hT hei)))
 | makeFunc fn first captured =>
   cases fn with
   | func f =>
     simp only [cmpI] at h
     split at h
     case h_2 => cases h
     rename_i hfirst
     obtain ⟨xs, hxs, rfl⟩ := y06 h
     have hf : first = #[] := by apply Array.ext'; rw [hfirst]
     subst hf
     have := IsV.mkf (P := P) (f := f) (s0g hxs)
     rw [Array.toArray_toList] at this
     exact .inl this
   | _ => simp [cmpI] at h
 | load t p =>
   simp only [cmpI] at h
   split at h
   case h_2 => cases h
   rename_i ti p' ht hp
   split at h
   case isFalse => cases h
   rename_i hc
   injection h with h; subst h
   refine .inl (.ld (y0m hp) (u0v (z0p hT ht)) (c0s (z0p hT ht)) fun ha => ?_)
   simpa [ha] using hc
 | slice t x lo hi mx =>
   cases mx with
   | some m => simp [cmpI] at h
   | none =>
     simp only [cmpI] at h
     split at h
     case h_2 => cases h
     rename_i ti x' lo' hi' ht hx hlo hhi
     have h1 := (z0p hT ht).1
     split at h
     ·rename_i el hd
      split at h
      case h_2 => cases h
      rename_i ei hei
      injection h with h; subst h
      rw [hd] at h1
      exact .inl (.slcS (y0m hx) (t1a hlo) (t1a hhi) h1 (u0v (z0p hT hei)))
     ·rename_i hd
      injection h with h; subst h
      rw [hd] at h1
      exact .inl (.slcT (y0m hx) (t1a hlo) (t1a hhi) h1)
     ·cases h
 | box t x =>
   simp only [cmpI] at h
   split at h
   case h_2 => cases h
   rename_i ti x' ht hx
   injection h with h; subst h
   split
   ·exact .inr (.inl (.boxs (y0m hx)))
   ·exact .inr (.inl (.box (y0m hx)))
 | alloc t =>
   simp only [cmpI] at h
   split at h
   case h_2 => cases h
   rename_i ti z ht hz
   split at h
   case isFalse => cases h
   rename_i hc
   injection h with h; subst h
   simp only [Bool.and_eq_true, beq_iff_eq] at hc
   obtain ⟨i, h1, _, _, h4⟩ := u0o (z0p hT ht)
   exact .inr (.inl (.alc h1 h4 hc.2 (l0x hc.1)))
 | store t p v =>
   simp only [cmpI] at h
   split at h
   case h_2 => cases h
   rename_i ti p' v' ht hp hv
   injection h with h; subst h
   exact .inr (.inl (.st (y0m hp) (y0m hv) (u0v (z0p hT ht))))
 | buildSlice t n parts =>
   simp only [cmpI] at h
   split at h
   case h_2 => cases h
   rename_i ti ht
   split at h
   case h_2 => cases h
   rename_i el hd
   split at h
   case h_2 => cases h
   rename_i ei os hei hps
   split at h
   case h_2 => cases h
   rename_i xs hxs
   split at h
   case isFalse => cases h
   rename_i hc
   obtain ⟨rfl, hc2, hc3, hc4⟩ := hc
   injection h with h; subst h
   have h1 := (z0p hT ht).1
   rw [hd] at h1
   obtain ⟨i, k1, k2, _, k4⟩ := u0o (z0p hT hei)
   have hp : parts = (os.zipIdx.map fun (o, i) => (i, o)).toArray := by
    apply Array.ext'
    rw [j0n hps]
   rw [hp]
   exact .inr (.inl (.bls h1 k1 k4 k2 hc4 hc2 hc3 (s0g hxs)))
 | makeSlice t l c =>
   simp only [cmpI] at h
   split at h
   case h_2 => cases h
   rename_i ti l' c' ht hl hc'
   split at h
   case h_2 => cases h
   rename_i el hd
   split at h
   case h_2 => cases h
   rename_i ei z hei hz
   split at h
   case isFalse => cases h
   rename_i hc
   injection h with h; subst h
   simp only [Bool.and_eq_true, beq_iff_eq, decide_eq_true_eq] at hc
   have h1 := (z0p hT ht).1
   rw [hd] at h1
   obtain ⟨i, k1, k2, k3, k4⟩ := u0o (z0p hT hei)
   exact .inr (.inl (.mks (y0m hl) (y0m hc') h1 k1 k4 k2 k3 hc.1.2 hc.1.1.2 hc.2 (l0x hc.1.1.1)))
 | call c =>
   simp only [cmpI] at h
   split at h
   ·rename_i f hcal
    split at h
    case h_2 => cases h
    rename_i xs hxs
    split at h
    case isFalse => cases h
    rename_i hf
    have h1 := f02 hF (by simpa using hf : f ∈ fs)
    unfold FOK1 at h1
    obtain ⟨fn, h2, h3⟩ := y06 h1
    simp only [Prod.mk.injEq] at h3
    split at h
    ·split at h
     ·obtain ⟨x, _, rfl⟩ := y06 h
      exact .inr (.inr (.callzr hcal (os := c.args.toList) (by simp) h2 h3.1 h3.2 (s0g hxs)))
     ·obtain ⟨x, _, rfl⟩ := y06 h
      exact .inr (.inr (.callr hcal (os := c.args.toList) (by simp) h2 h3.1 h3.2 (s0g hxs)))
    ·split at h
     ·injection h with h; subst h
      exact .inr (.inr (.callo hcal (os := c.args.toList) (by simp) h2 h3.1 h3.2 (s0g hxs)))
     ·split at h
      ·injection h with h; subst h
       exact .inr (.inr (.calln hcal (os := c.args.toList) (by simp) h2 h3.1 h3.2 (s0g hxs)))
      ·split at h
       ·injection h with h; subst h
        exact .inr (.inr (.callz hcal (os := c.args.toList) (by simp) h2 h3.1 h3.2 (s0g hxs)))
       ·injection h with h; subst h
        split
        ·exact .inr (.inr (.callf hcal (os := c.args.toList) (by simp) h2 h3.1 h3.2 (s0g hxs)))
        ·exact .inr (.inr (.call hcal (os := c.args.toList) (by simp) h2 h3.1 h3.2 (s0g hxs)))
   ·rename_i t hcal
    obtain ⟨xs, hxs, rfl⟩ := y06 h
    exact .inr (.inr (.callv hcal rfl (os := c.args.toList) (by simp) (s0g hxs)))
   ·rename_i hcal
    split at h
    case h_2 => cases h
    rename_i x t hargs hts
    split at h
    case h_2 => cases h
    rename_i ti x' ht hx
    have h1 := (z0p hT ht).1
    have ha : c.args = #[x] := by apply Array.ext'; rw [hargs]
    have hb : c.argTypes = #[t] := by apply Array.ext'; rw [hts]
    obtain ⟨callee, args, argTypes⟩ := c
    simp only at hcal ha hb
    subst hcal; subst ha; subst hb
    split at h
    ·rename_i el hd
     injection h with h; subst h
     rw [hd] at h1
     exact .inl (.lenS (y0m hx) h1)
    ·rename_i hd
     injection h with h; subst h
     rw [hd] at h1
     exact .inl (.lenT (y0m hx) h1)
    ·cases h
   ·rename_i hcal
    split at h
    case h_2 => cases h
    rename_i x y hargs
    split at h
    case h_2 => cases h
    rename_i hx hy
    injection h with h; subst h
    have ha : c.args = #[x, y] := by apply Array.ext'; rw [hargs]
    obtain ⟨callee, args, argTypes⟩ := c
    simp only at hcal ha
    subst hcal; subst ha
    exact .inl (.max (y0m hx) (y0m hy))
   ·rename_i hcal
    split at h
    case h_2 => cases h
    rename_i x y hargs
    split at h
    case h_2 => cases h
    rename_i hx hy
    injection h with h; subst h
    have ha : c.args = #[x, y] := by apply Array.ext'; rw [hargs]
    obtain ⟨callee, args, argTypes⟩ := c
    simp only at hcal ha
    subst hcal; subst ha
    exact .inl (.min (y0m hx) (y0m hy))
   ·rename_i hcal
    split at h
    case h_2 => cases h
    rename_i s x t t' hargs hts
    split at h
    case h_2 => cases h
    rename_i ti s' x' ht hs hx
    split at h
    case h_2 => cases h
    rename_i el hd
    split at h
    case h_2 => cases h
    rename_i ei hei
    split at h
    case isFalse => cases h
    rename_i hc
    obtain ⟨rfl, hc2, hc3, hc4⟩ := hc
    injection h with h; subst h
    have h1 := (z0p hT ht).1
    rw [hd] at h1
    obtain ⟨i, k1, k2, k3, k4⟩ := u0o (z0p hT hei)
    have ha : c.args = #[s, x] := by apply Array.ext'; rw [hargs]
    have hb : c.argTypes = #[t, t] := by apply Array.ext'; rw [hts]
    obtain ⟨callee, args, argTypes⟩ := c
    simp only at hcal ha hb
    subst hcal; subst ha; subst hb
    exact .inr (.inl (.app (y0m hs) (y0m hx) h1 k1 k4 k2 k3 hc2 hc3 hc4))
   ·cases h
 | _ => simp [cmpI] at h
end
def cmpG (ops : Array Oper) : Option (Nat × Bool) → Option (Option (Nat × Bool))
 | none => some none
 | some (j, want) => match (ops[j]?).bind (·.dst) with
   | some t => some (some (t, want))
   | none => none
def cmpD (n : Nat) : Option Nat → Bool
 | none => true
 | some d => decide (d < n) && decide (d < 1000)
def cmpL (T : List (Nat × TI)) (fs : List Nat) (an : An) (n : Nat) (ops : Array Oper) : List Oper → Option (List Ins)
 | [] => some []
 | o :: os => match cmpI T fs an o, cmpG ops o.guard, cmpL T fs an n ops os with
   | some i, some g, some is => if cmpD n o.dst then some (⟨o.dst, g, i⟩ :: is) else none
   | _, _, _ => none
def f1c : I → Bool
 | .asn .. | .bld .. | .box .. | .boxs .. | .alc .. | .st .. | .bls .. | .mks .. | .app .. | .callr .. | .callo .. | .calln .. | .callz .. | .callzr .. | .callf .. | .asf .. => false
 | _ => true
def g1d : List Ins → Nat
 | [] => 0
 | i :: is => if f1c i.i then g1d is + 1 else 0
def y1k (ops : Array Oper) : Nat → Nat → Option Nat
 | 0, m => if Region.lexTailB .any ops m then some m else none
 | f + 1, m => if Region.lexTailB .any ops m then some m else if m = 0 then none else y1k ops f (m - 1)
def e0v (ops : Array Oper) (is : List Ins) : Nat → Bool
 | 0 => false
 | f + 1 => l0c ops is f || e0v ops is f
theorem i0i {ops : Array Oper} {is : List Ins} : ∀ {f : Nat}, e0v ops is f = true → ∃ m, l0c ops is m = true
 | 0, h => by cases h
 | f + 1, h => by
   simp only [e0v, Bool.or_eq_true] at h
   rcases h with h | h
   ·exact ⟨f, h⟩
   ·exact i0i h
def drwN (ops : Array Oper) (is : List Ins) : Option Nat :=
 let h := g1d is
 if h = is.length ∧ Region.lexB .any ops = true then some h else match y1k ops h h with
  | some m => some m
  | none => if e0v ops is ops.size = true then some 0 else none
theorem e0y {ops : Array Oper} {m' : Nat} : ∀ {f m : Nat}, y1k ops f m = some m' → Region.lexTailB .any ops m' = true
 | 0, m, h => by
   simp only [y1k] at h
   split at h
   ·rename_i hh; injection h with h; subst h; exact hh
   ·cases h
 | f + 1, m, h => by
   simp only [y1k] at h
   split at h
   ·rename_i hh; injection h with h; subst h; exact hh
   ·split at h
    ·cases h
    ·exact e0y h
theorem n1w {ops : Array Oper} {is : List Ins} {m : Nat} (h : drwN ops is = some m) : (Region.lexB .any ops = true ∧ is.length ≤ m) ∨ Region.lexTailB .any ops m = true ∨ (m = 0 ∧ ∃ m', l0c ops is m' = true) := by
 unfold drwN at h
 simp only at h
 split at h
 ·rename_i hh; injection h with h; subst h; exact .inl ⟨hh.2, by omega⟩
 ·split at h
  ·rename_i m2 hm
   injection h with h; subst h
   exact .inr (.inl (e0y hm))
  ·split at h
   ·rename_i hh; injection h with h; exact .inr (.inr ⟨h.symm, i0i hh⟩)
   ·cases h
def gsOf (is : List Ins) (m : Nat) : List Nat := (List.range m).filter fun i => ((is[i]?).map fun x => (q0e x).isSome).getD false
def qsOf (is : List Ins) (m : Nat) : List Nat := (List.range m).filter fun i => !((is[i]?).map fun x => (q0e x).isSome).getD false
def w1m (ops : Array Oper) (is : List Ins) (m : Nat) : Option (Nat × List Nat × List Nat) :=
 if ((qsOf is m).all fun i => ((is[i]?).map fun x => t0t x.i).getD false) = true then (if grpB ops is m (qsOf is m) (gsOf is m) = true then some (m, qsOf is m, gsOf is m) else none) else none
theorem z1z {ops : Array Oper} {is : List Ins} {m' m : Nat} {qs gs : List Nat} (h : w1m ops is m' = some (m, qs, gs)) : grpB ops is m qs gs = true := by
 unfold w1m at h
 split at h
 case isFalse => cases h
 generalize qsOf is m' = q at h
 generalize gsOf is m' = g at h
 by_cases hb : grpB ops is m' q g = true
 ·rw [if_pos hb] at h
  injection h with h
  injection h with h1 h2
  injection h2 with h3 h4
  rw [← h1, ← h3, ← h4]; exact hb
 ·rw [if_neg hb] at h; cases h
def e0u (t : Nat → Option (Nat × List Nat × List Nat)) : List Nat → Option (Nat × List Nat × List Nat)
 | [] => none
 | m :: ms => match t m with
   | some r => some r
   | none => e0u t ms
theorem i0u {t : Nat → Option (Nat × List Nat × List Nat)} {r : Nat × List Nat × List Nat} : ∀ ms : List Nat, e0u t ms = some r → ∃ m, t m = some r
 | [], h => by cases h
 | m' :: ms, h => by
   unfold e0u at h
   cases hr : t m' with
   | some x => rw [hr] at h; exact ⟨m', hr.trans h⟩
   | none => rw [hr] at h; exact i0u ms h
def grpN (ops : Array Oper) (is : List Ins) (ms : List Nat) : Option (Nat × List Nat × List Nat) := e0u (w1m ops is) ms
theorem x1y {ops : Array Oper} {is : List Ins} {m : Nat} {qs gs : List Nat} {ms : List Nat} (h : grpN ops is ms = some (m, qs, gs)) : grpB ops is m qs gs = true := by
 obtain ⟨m', h'⟩ := i0u ms h
 exact z1z h'
def sctT (T : List (Nat × TI)) : Nat → Nat → Bool
 | 0, _ => false
 | f + 1, t => match (look T t).map (·.d) with
   | some (TypeDesc.int _) => true
   | some TypeDesc.bool => true
   | some TypeDesc.string => true
   | some (TypeDesc.struct fs) => fs.toList.all fun fl => sctT T f fl.type
   | _ => false
def wantG (T : List (Nat × TI)) (ops : Array Oper) : Bool :=
 ops.toList.any fun o => match o.op with
  | .call c => match c.callee with
    | .value _ => !sctT T 6 o.type
    | _ => false
  | _ => false
def z17 (ops : Array Oper) (is : List Ins) (lvs : List Nat) : Nat → OS → List Nat
 | 0, _ => []
 | f + 1, s => match (Region.ready .any ops s.listed).findSome? (fun k => (u0b ops is lvs ops.size s k).map fun s' => (k, s')) with
   | some (k, s') => k :: z17 ops is lvs f s'
   | none => []
def c0o (ops : Array Oper) (is : List Ins) : Option (List Nat) :=
 if l04 ops is (z17 ops is (lvGo is []) ops.size (ord0 ops)) = true then some (z17 ops is (lvGo is []) ops.size (ord0 ops)) else none
theorem i08 {ops : Array Oper} {is : List Ins} {ks : List Nat} (h : c0o ops is = some ks) : l04 ops is ks = true := by
 unfold c0o at h
 generalize z17 ops is (lvGo is []) ops.size (ord0 ops) = q at h
 split at h
 ·rename_i hh; injection h with h; rw [← h]; exact hh
 ·cases h
def m1g (T : List (Nat × TI)) (ops : Array Oper) (m : Nat) : Bool :=
 (ops.toList.take m).any fun o => match o.op with
   | .call c => match c.callee with
     | .value _ => !sctT T 6 o.type
     | _ => false
   | _ => false
def l0y (T : List (Nat × TI)) (ops : Array Oper) (is : List Ins) : Option (List Nat) :=
 match drwN ops is with
 | some m => if m1g T ops m = true then c0o ops is else none
 | none => none
theorem f0o {T : List (Nat × TI)} {ops : Array Oper} {is : List Ins} {ks : List Nat} (h : l0y T ops is = some ks) : l04 ops is ks = true := by
 unfold l0y at h
 split at h
 ·split at h
  ·exact i08 h
  ·cases h
 ·cases h
def n1v (ops : Array Oper) (is : List Ins) (lvs : List Nat) (fl : Nat) : Nat → OS → List Nat × OS
 | 0, s => ([], s)
 | f + 1, s => match (Region.ready .any ops s.listed).findSome? (fun k => if k == fl then none else (u0b ops is lvs fl s k).map fun s' => (k, s')) with
   | some (k, s') => match n1v ops is lvs fl f s' with
     | (ks, s1) => (k :: ks, s1)
   | none => ([], s)
def fltAt (is : List Ins) : Option (Nat × Nat) :=
 (List.range is.length).findSome? (β := Nat × Nat) fun i => match (is[i]? : Option Ins) with
   | some { d := some d, gd := none, i := I.alc _ _ _ } => some (i, d)
   | _ => none
def z19 (ops : Array Oper) (is : List Ins) (lvs : List Nat) (fl : Nat) (s : OS) : List Nat :=
 match u0b ops is lvs ops.size s fl with
 | some s' => z17 ops is lvs ops.size s'
 | none => []
def a0w (ops : Array Oper) (is : List Ins) : Option (Nat × Nat × List Nat × List Nat) :=
 match fltAt is with
 | some (fl, d) => match n1v ops is (lvGo is []) fl ops.size (ord0 ops) with
   | (pre, s) => if h09 ops is fl d pre (z19 ops is (lvGo is []) fl s) = true then some (fl, d, pre, z19 ops is (lvGo is []) fl s) else none
 | none => none
theorem v14 {ops : Array Oper} {is : List Ins} {fl d : Nat} {pre post : List Nat} (h : a0w ops is = some (fl, d, pre, post)) : h09 ops is fl d pre post = true := by
 unfold a0w at h
 split at h
 case h_2 => cases h
 generalize n1v ops is _ _ _ _ = g at h
 obtain ⟨pre', s⟩ := g
 simp only at h
 split at h
 ·rename_i hh
  simp only [Option.some.injEq, Prod.mk.injEq] at h
  obtain ⟨rfl, rfl, rfl, rfl⟩ := h
  exact hh
 ·cases h
def h1r (T : List (Nat × TI)) (ops : Array Oper) (is : List Ins) : Option K :=
 match (if wantG T ops then grpN ops is (List.range is.length) else none) with
 | some (m, qs, gs) => some (.grp none m qs gs is)
 | none => match l0y T ops is with
  | some ks => some (.drw none 0 (y0x is ks))
  | none => match drwN ops is with
   | some m => some (.drw none m is)
   | none => match grpN ops is (List.range is.length) with
     | some (m, qs, gs) => some (.grp none m qs gs is)
     | none => match c0o ops is with
       | some ks => some (.drw none 0 (y0x is ks))
       | none => match a0w ops is with
         | some (fl, d, pre, post) => some (.flt none d (y0x is pre) (y0x is (fl :: post)))
         | none => none
def cmpC (T : List (Nat × TI)) (fs : List Nat) (an : An) (n : Nat) : Code → Option K
 | .skip => some .skip
 | .seq a b => match cmpC T fs an n a, cmpC T fs an n b with
   | some a, some b => some (.seq a b)
   | _, _ => none
 | .region id ops draw => match cmpL T fs an n ops ops.toList with
   | some is => if draw then (if an.mo then h1r T ops is else none) else some (.reg (look an.keep id) is)
   | none => some .bad
 | .cond o a b => match cX T 0 o, cmpC T fs an n a, cmpC T fs an n b with
   | some x, some a, some b => some (.cond x a b)
   | _, _, _ => none
 | .block id c => (cmpC T fs an n c).map (.block id)
 | .loop c => (cmpC T fs an n c).map (.loop none)
 | .exit id => some (.exit id)
 | .ret => some .ret
 | _ => some .bad
section
variable {P : Program} {T : List (Nat × TI)} {fs : List Nat} {n : Nat} {an : An}
theorem t0y (hT : TOK P T) (hF : FOK P fs) {ops : Array Oper} : ∀ {os : List Oper} {is : List Ins}, cmpL T fs an n ops os = some is → InsL P n ops os is
 | [], is, h => by
   simp only [cmpL, Option.some.injEq] at h
   subst h; trivial
 | o :: os, is, h => by
   simp only [cmpL] at h
   split at h
   case h_2 => cases h
   rename_i i g is' hi hg hl
   split at h
   case isFalse => cases h
   rename_i hd
   injection h with h; subst h
   refine ⟨⟨rfl, fun k hk => ?_, ?_, q1q hT hF hi⟩, t0y hT hF hl⟩
   ·rw [hk] at hd
    simp only [cmpD, Bool.and_eq_true, decide_eq_true_eq] at hd
    exact hd
   ·cases hgd : o.guard with
    | none =>
      rw [hgd] at hg
      simp only [cmpG, Option.some.injEq] at hg
      exact .inl ⟨rfl, hg.symm⟩
    | some jw =>
      obtain ⟨j, want⟩ := jw
      rw [hgd] at hg
      simp only [cmpG] at hg
      split at hg
      case h_2 => cases hg
      rename_i t ht
      injection hg with hg
      exact .inr ⟨j, want, t, rfl, hg.symm, ht⟩
theorem p1p (hT : TOK P T) (hF : FOK P fs) (hmo : an.mo = true → P.follows .mixedOrders = true) : ∀ {c : Code} {k : K}, cmpC T fs an n c = some k → CK P n c k := by
 intro c
 induction c with
 | skip => intro k h; simp only [cmpC, Option.some.injEq] at h; subst h; exact .skip
 | seq a b ih1 ih2 =>
   intro k h
   simp only [cmpC] at h
   split at h
   case h_2 => cases h
   rename_i ha hb
   injection h with h; subst h
   exact .seq (ih1 ha) (ih2 hb)
 | region id ops draw =>
   intro k h
   simp only [cmpC] at h
   split at h
   case h_2 => injection h with h; subst h; exact .bad
   rename_i is hl
   split at h
   ·rename_i hd
    subst hd
    split at h
    case isFalse => cases h
    rename_i hmo'
    unfold h1r at h
    split at h
    ·rename_i m qs gs hg
     injection h with h; subst h
     split at hg
     ·exact .grp (t0y hT hF hl) (hmo hmo') (x1y hg)
     ·cases hg
    ·split at h
     ·rename_i ks hk
      injection h with h; subst h
      exact .ord (t0y hT hF hl) (hmo hmo') (f0o hk)
     ·split at h
      ·rename_i m h1
       injection h with h; subst h
       exact .drw (t0y hT hF hl) (hmo hmo') (n1w h1)
      ·split at h
       ·rename_i m qs gs hg
        injection h with h; subst h
        exact .grp (t0y hT hF hl) (hmo hmo') (x1y hg)
       ·split at h
        ·rename_i ks hk
         injection h with h; subst h
         exact .ord (t0y hT hF hl) (hmo hmo') (i08 hk)
        ·split at h
         ·rename_i hk
          injection h with h; subst h
          exact .flt (t0y hT hF hl) (hmo hmo') (v14 hk)
         ·cases h
   ·rename_i hd
    injection h with h; subst h
    have : draw = false := by simpa using hd
    subst this
    exact .reg (t0y hT hF hl)
 | cond o a b ih1 ih2 =>
   intro k h
   simp only [cmpC] at h
   split at h
   case h_2 => cases h
   rename_i hx ha hb
   injection h with h; subst h
   exact .cond (y0m hx) (ih1 ha) (ih2 hb)
 | block id c ih =>
   intro k h
   simp only [cmpC] at h
   obtain ⟨k', h1, rfl⟩ := y06 h
   exact .block (ih h1)
 | loop c ih =>
   intro k h
   simp only [cmpC] at h
   obtain ⟨k', h1, rfl⟩ := y06 h
   exact .loop (ih h1)
 | exit id => intro k h; simp only [cmpC, Option.some.injEq] at h; subst h; exact .exit
 | ret => intro k h; simp only [cmpC, Option.some.injEq] at h; subst h; exact .ret
 | _ => intro k h; simp only [cmpC, Option.some.injEq] at h; subst h; exact .bad
end
def cmpR (T : List (Nat × TI)) : List ResultVar → Option (List RV)
 | [] => some []
 | .tmp t :: r => (cmpR T r).map (.t t :: ·)
 | .cell a t :: r => match look T t, cmpR T r with
   | some ti, some rs => if aggD ti.d || ti.n == 1 then some (.c a ti.n (aggD ti.d) :: rs) else none
   | _, _ => none
theorem f0f {P : Program} {T : List (Nat × TI)} (hT : TOK P T) : ∀ {ros : List ResultVar} {rs : List RV}, cmpR T ros = some rs → RL P rs ros
 | [], rs, h => by simp only [cmpR, Option.some.injEq] at h; subst h; trivial
 | .tmp t :: r, rs, h => by
   simp only [cmpR] at h
   obtain ⟨rs', h1, rfl⟩ := y06 h
   exact ⟨rfl, f0f hT h1⟩
 | .cell a t :: r, rs, h => by
   simp only [cmpR] at h
   split at h
   case h_2 => cases h
   rename_i ti rs' ht hr
   split at h
   case isFalse => cases h
   rename_i hc
   injection h with h; subst h
   exact ⟨⟨rfl, u0v (z0p hT ht), c0s (z0p hT ht), fun ha => by simpa [ha] using hc⟩, f0f hT hr⟩
def cmpF (T : List (Nat × TI)) (fs : List Nat) (an : An) (fn : Func) : Option (List RV × K) :=
 match fn.body with
 | some c => match cmpC T fs an fn.ntmps c, cmpR T fn.results.toList with
   | some k, some rs => some (rs, k)
   | _, _ => none
 | none => none
end Go.Am
namespace Go.Am
def mkT (P : Program) : List Nat → List (Nat × TI)
 | [] => []
 | t :: r => match P.underlying t, (P.info? t).map (fun i => (i.zero, i.size, i.bytes)) with
   | some d, some (some z, n, b) => (t, ⟨d, n, b, z, !(P.stoodInHeld t) && !(P.eqGuardType P.depth t)⟩) :: mkT P r
   | _, _ => mkT P r
theorem p0e (P : Program) : ∀ ts : List Nat, TOK P (mkT P ts)
 | [] => trivial
 | t :: r => by
   simp only [mkT]
   split
   ·rename_i d z n b h1 h2
    exact ⟨⟨h1, h2, fun hq => by simpa using hq⟩, p0e P r⟩
   ·exact p0e P r
def mkF (P : Program) : List Nat → List Nat
 | [] => []
 | f :: r => match (P.funcs[f]?).map (fun fn => (fn.name == "runtime.NumGoroutine", fn.body.isNone)) with
   | some (false, false) => f :: mkF P r
   | _ => mkF P r
theorem q00 (P : Program) : ∀ fs : List Nat, FOK P (mkF P fs)
 | [] => trivial
 | f :: r => by
   simp only [mkF]
   split
   ·rename_i h; exact ⟨h, q00 P r⟩
   ·exact q00 P r
def x07 : K → K
 | .skip => .skip
 | .seq a b => .seq (x07 a) (x07 b)
 | .reg _ is => .reg none is
 | .drw _ m is => .drw none m is
 | .grp _ m qs gs is => .grp none m qs gs is
 | .flt _ d pre is => .flt none d pre is
 | .cond x a b => .cond x (x07 a) (x07 b)
 | .block id k => .block id (x07 k)
 | .loop _ k => .loop none (x07 k)
 | .exit id => .exit id
 | .ret => .ret
 | .bad => .bad
theorem v1k {P : Program} {n : Nat} : ∀ (k' : K) {c : Code} {k : K}, CK P n c k → x07 k = x07 k' → CK P n c k' := by
 intro k'
 induction k' with
 | skip => intro c k hc h; cases hc <;> simp only [x07] at h <;> first | exact .skip | cases h
 | seq a b ih1 ih2 =>
   intro c k hc h
   cases hc <;> simp only [x07] at h <;> first | (cases h; done) | skip
   rename_i h1 h2
   injection h with h3 h4
   exact .seq (ih1 h1 h3) (ih2 h2 h4)
 | reg kp is =>
   intro c k hc h
   cases hc <;> simp only [x07] at h <;> first | (cases h; done) | skip
   rename_i h1
   injection h with h3 h4
   subst h4
   exact .reg h1
 | drw kp m is =>
   intro c k hc h
   cases hc <;> simp only [x07] at h <;> first | (cases h; done) | skip
   case drw h1 h2 h3 =>
    injection h with h4 h5 h6
    subst h5
    subst h6
    exact .drw h1 h2 h3
   case ord h1 h2 h3 =>
    injection h with h3 h4 h5
    subst h4
    subst h5
    exact .ord h1 h2 (by assumption)
 | grp kp m qs gs is =>
   intro c k hc h
   cases hc <;> simp only [x07] at h <;> first | (cases h; done) | skip
   rename_i h1 h2 h3
   injection h with h4 h5 h6 h7 h8
   subst h5
   subst h6
   subst h7
   subst h8
   exact .grp h1 h2 h3
 | flt kp d pre is =>
   intro c k hc h
   cases hc <;> simp only [x07] at h <;> first | (cases h; done) | skip
   rename_i h1 h2 h3
   injection h with h4 h5 h6 h7
   subst h5
   subst h6
   subst h7
   exact .flt h1 h2 h3
 | cond x a b ih1 ih2 =>
   intro c k hc h
   cases hc <;> simp only [x07] at h <;> first | (cases h; done) | skip
   rename_i h0 h1 h2
   injection h with h3 h4 h5
   subst h3
   exact .cond h0 (ih1 h1 h4) (ih2 h2 h5)
 | block id a ih =>
   intro c k hc h
   cases hc <;> simp only [x07] at h <;> first | (cases h; done) | skip
   rename_i h1
   injection h with h3 h4
   subst h3
   exact .block (ih h1 h4)
 | loop kp a ih =>
   intro c k hc h
   cases hc <;> simp only [x07] at h <;> first | (cases h; done) | skip
   rename_i h1
   injection h with h3 h4
   exact .loop (ih h1 h4)
 | exit id =>
   intro c k hc h
   cases hc <;> simp only [x07] at h <;> first | (cases h; done) | skip
   injection h with h; subst h; exact .exit
 | ret => intro c k hc h; cases hc <;> simp only [x07] at h <;> first | exact .ret | cases h
 | bad => intro c k hc h; exact .bad
def cmpS (T : List (Nat × TI)) (fs : List Nat) (an : An) (fn : Option Func) : Option (Nat × List RV × K) :=
 match fn with
 | some fn => (cmpF T fs an fn).map fun (rs, k) => (fn.ntmps, rs, x07 k)
 | none => none
theorem s0n {P : Program} {T : List (Nat × TI)} {fs : List Nat} (hT : TOK P T) (hF : FOK P fs) (an : An) (hmo : an.mo = true → P.follows .mixedOrders = true) {f : FuncId} {n : Nat} {rs : List RV} {k : K} {args : List A} {H : List (Nat × Obj)} {R : A → List (Nat × Obj) → Prop}
 (hc : cmpS T fs an (P.funcs[f]?) = some (n, rs, x07 k)) (hn : args.length ≤ n) (hn2 : args.length ≤ 1000) (h : awp P k (t0s rs R) (n0c args H)) : CallsA P f args H R := by
 cases hf : P.funcs[f]? with
 | none => rw [hf] at hc; cases hc
 | some fn =>
   rw [hf] at hc
   simp only [cmpS] at hc
   obtain ⟨⟨rs', k'⟩, h1, h2⟩ := y06 hc
   simp only [Prod.mk.injEq] at h2
   obtain ⟨rfl, rfl, hk⟩ := h2
   unfold cmpF at h1
   split at h1
   case h_2 => cases h1
   rename_i c hb
   split at h1
   case h_2 => cases h1
   rename_i k1 rs1 hk1 hr1
   simp only [Option.some.injEq, Prod.mk.injEq] at h1
   obtain ⟨rfl, rfl⟩ := h1
   exact j0p hf hb (v1k k (p1p hT hF hmo hk1) hk) (by simp) (f0f hT hr1) hn hn2 h
end Go.Am
namespace Go.Am
def seqQ (P : Program) (b : K) (Q : Ex → St → Prop) : Ex → St → Prop := fun e σ => match e with
 | .n => awp P b Q σ
 | e => Q e σ
def blkQ (id : Nat) (Q : Ex → St → Prop) : Ex → St → Prop := fun e σ => match e with
 | .x i => if i = id then Q .n σ else Q (.x i) σ
 | e => Q e σ
def y1d (J : Nat → St → Prop) (n : Nat) (keep : Option (List Nat × List Nat)) (Q : Ex → St → Prop) : Ex → St → Prop := fun e σ => match e with
 | .n => ∃ m, m < n ∧ J m (t0e keep σ)
 | e => Q e σ
def z1g (Q : Ex → St → Prop) : St → Prop := Q .n
section
variable {P : Program} {a b : K} {Q : Ex → St → Prop} {σ : St}
@[simp] theorem seqQ_n : seqQ P b Q .n σ = awp P b Q σ := rfl
@[simp] theorem seqQ_x {i : Nat} : seqQ P b Q (.x i) σ = Q (.x i) σ := rfl
@[simp] theorem seqQ_r : seqQ P b Q .r σ = Q .r σ := rfl
@[simp] theorem blkQ_n {id : Nat} : blkQ id Q .n σ = Q .n σ := rfl
@[simp] theorem blkQ_x {id i : Nat} : blkQ id Q (.x i) σ = if i = id then Q .n σ else Q (.x i) σ := rfl
@[simp] theorem blkQ_r {id : Nat} : blkQ id Q .r σ = Q .r σ := rfl
@[simp] theorem loopQ_n {J : Nat → St → Prop} {n : Nat} {keep : Option (List Nat × List Nat)} : y1d J n keep Q .n σ = ∃ m, m < n ∧ J m (t0e keep σ) := rfl
@[simp] theorem loopQ_x {J : Nat → St → Prop} {n : Nat} {keep : Option (List Nat × List Nat)} {i : Nat} : y1d J n keep Q (.x i) σ = Q (.x i) σ := rfl
@[simp] theorem loopQ_r {J : Nat → St → Prop} {n : Nat} {keep : Option (List Nat × List Nat)} : y1d J n keep Q .r σ = Q .r σ := rfl
@[simp] theorem normQ_ap : z1g Q σ = Q .n σ := rfl
@[simp] theorem awp_skip : awp P .skip Q σ = Q .n σ := rfl
@[simp] theorem awp_seq : awp P (.seq a b) Q σ = awp P a (seqQ P b Q) σ := by
  simp only [awp]; congr 1
@[simp] theorem i1h {id : Nat} : awp P (.block id a) Q σ = awp P a (blkQ id Q) σ := by
  simp only [awp]; congr 1
@[simp] theorem awp_exit {id : Nat} : awp P (.exit id) Q σ = Q (.x id) σ := rfl
@[simp] theorem awp_ret : awp P .ret Q σ = Q .r σ := rfl
@[simp] theorem awp_reg {is : List Ins} {kp : Option (List Nat × List Nat)} : awp P (.reg kp is) Q σ = x0u P is (z1g Q) (t0e kp σ) := rfl
theorem z05 {keep : Option (List Nat × List Nat)} (J : Nat → St → Prop) (n : Nat) (h0 : J n (t0e keep σ)) (h : ∀ n σ, J n σ → awp P a (y1d J n keep Q) σ) : awp P (.loop keep a) Q σ := by
 refine ⟨J, n, h0, fun n σ hj => ?_⟩
 have := h n σ hj
 have e : y1d J n keep Q = fun e σ' => match e with
  | .n => ∃ m, m < n ∧ J m (t0e keep σ')
  | e => Q e σ' := by funext e σ'; cases e <;> rfl
 rw [e] at this
 exact this
def z1k (P : Program) (a b : K) (Q : Ex → St → Prop) (σ : St) (t : Bool) : Prop := if t then awp P a Q σ else awp P b Q σ
@[simp] theorem condK_t : z1k P a b Q σ true = awp P a Q σ := rfl
@[simp] theorem condK_f : z1k P a b Q σ false = awp P b Q σ := rfl
def m1d (P : Program) (a b : K) (Q : Ex → St → Prop) (σ : St) : Option A → Prop
 | some (.one (.bool t)) => z1k P a b Q σ t
 | _ => False
@[simp] theorem condA_b {t : Bool} : m1d P a b Q σ (some (.one (.bool t))) = z1k P a b Q σ t := rfl
@[simp] theorem awp_cond {x : X} : awp P (.cond x a b) Q σ = m1d P a b Q σ (ev σ x) := by
  simp only [awp, m1d, z1k] <;> (split <;> simp_all)
@[simp] theorem f1t {K : St → Prop} : x0u P [] K σ = K σ := rfl
def grdK (P : Program) (d : Option Nat) (i : I) (want : Bool) (K : St → Prop) (σ : St) (b : Bool) : Prop := if b = want then iwp0 P d i K σ else K (setT σ d (.tup []))
@[simp] theorem grdK_tt {d : Option Nat} {i : I} {K : St → Prop} : grdK P d i true K σ true = iwp0 P d i K σ := rfl
@[simp] theorem grdK_ff {d : Option Nat} {i : I} {K : St → Prop} : grdK P d i false K σ false = iwp0 P d i K σ := rfl
@[simp] theorem grdK_tf {d : Option Nat} {i : I} {K : St → Prop} : grdK P d i true K σ false = K (setT σ d (.tup [])) := rfl
@[simp] theorem grdK_ft {d : Option Nat} {i : I} {K : St → Prop} : grdK P d i false K σ true = K (setT σ d (.tup [])) := rfl
def grdA (P : Program) (d : Option Nat) (i : I) (want : Bool) (K : St → Prop) (σ : St) : Option A → Prop
 | some (.one (.bool b)) => grdK P d i want K σ b
 | some (.tup []) => K (setT σ d (.tup []))
 | _ => False
@[simp] theorem grdA_u {d : Option Nat} {i : I} {want : Bool} {K : St → Prop} : grdA P d i want K σ (some (.tup [])) = K (setT σ d (.tup [])) := rfl
@[simp] theorem grdA_b {d : Option Nat} {i : I} {want : Bool} {K : St → Prop} {t : Bool} : grdA P d i want K σ (some (.one (.bool t))) = grdK P d i want K σ t := rfl
@[simp] theorem h10 {d : Option Nat} {i : I} {is : List Ins} {K : St → Prop} : x0u P (⟨d, none, i⟩ :: is) K σ = iwp0 P d i (x0u P is K) σ := rfl
@[simp] theorem k14 {d : Option Nat} {t : Nat} {want : Bool} {i : I} {is : List Ins} {K : St → Prop} : x0u P (⟨d, some (t, want), i⟩ :: is) K σ = grdA P d i want (x0u P is K) σ (look σ.tm t) := by
  simp only [x0u, iwp, grdA, grdK] <;> (split <;> simp_all)
def vK (K : St → Prop) (d : Option Nat) : Option (A × St) → Prop
 | some (a, σ1) => K (setT σ1 d a)
 | none => False
@[simp] theorem vK_some {K : St → Prop} {d : Option Nat} {a : A} {σ1 : St} : vK K d (some (a, σ1)) = K (setT σ1 d a) := rfl
def mK (K : St → Prop) : Option St → Prop
 | some σ1 => K σ1
 | none => False
@[simp] theorem mK_some {K : St → Prop} {σ1 : St} : mK K (some σ1) = K σ1 := rfl
def isM : I → Bool
 | .asn .. | .bld .. | .box .. | .boxs .. | .alc .. | .st .. | .bls .. | .mks .. | .app .. | .asf .. => true
 | _ => false
theorem g0o {i : I} (h : isM i = true) : runV i σ = none := by
 cases i <;> first | rfl | cases h
theorem g0p {i : I} {d : Option Nat} (h : isM i = false) : runM d i σ = none := by
 cases i <;> first | rfl | cases h
theorem v0p {d : Option Nat} {i : I} {K : St → Prop} (h : isM i = false) (h2 : m0o i = false) : iwp0 P d i K σ = vK K d (runV i σ) := by
 rw [u04 h2, g0p h]
 cases runV i σ with
 | none => rfl
 | some p => obtain ⟨a, s⟩ := p; rfl
theorem m05 {d : Option Nat} {i : I} {K : St → Prop} (h : isM i = true) : iwp0 P d i K σ = mK K (runM d i σ) := by
 have h2 : m0o i = false := by cases i <;> first | rfl | cases h
 rw [u04 h2, g0o h]
 cases runM d i σ with
 | none => rfl
 | some p => rfl
variable {d : Option Nat} {K : St → Prop}
@[simp] theorem iwp_mv {x : X} : iwp0 P d (.mv x) K σ = vK K d (w0h σ x) := v0p rfl rfl
@[simp] theorem iwp_als {x : X} : iwp0 P d (.als x) K σ = vK K d (w0h σ x) := v0p rfl rfl
@[simp] theorem iwp_pick {c x y : X} : iwp0 P d (.pick c x y) K σ = vK K d (runV (.pick c x y) σ) := v0p rfl rfl
@[simp] theorem iwp_bin {o : BinOp} {x y : X} : iwp0 P d (.bin o x y) K σ = vK K d (runV (.bin o x y) σ) := v0p rfl rfl
@[simp] theorem iwp_beq {ne : Bool} {x y : X} : iwp0 P d (.beq ne x y) K σ = vK K d (runV (.beq ne x y) σ) := v0p rfl rfl
@[simp] theorem iwp_not {x : X} : iwp0 P d (.not x) K σ = vK K d (runV (.not x) σ) := v0p rfl rfl
@[simp] theorem iwp_neg {x : X} : iwp0 P d (.neg x) K σ = vK K d (runV (.neg x) σ) := v0p rfl rfl
@[simp] theorem iwp_conv {k : IntKind} {x : X} : iwp0 P d (.conv k x) K σ = vK K d (runV (.conv k x) σ) := v0p rfl rfl
@[simp] theorem iwp_sqe {ne : Bool} {ks : List Bool} {x y : X} : iwp0 P d (.sqe ne ks x y) K σ = vK K d (runV (.sqe ne ks x y) σ) := v0p rfl rfl
@[simp] theorem iwp_b2s {x : X} : iwp0 P d (.b2s x) K σ = vK K d (runV (.b2s x) σ) := v0p rfl rfl
@[simp] theorem iwp_len {x : X} : iwp0 P d (.len x) K σ = vK K d (runV (.len x) σ) := v0p rfl rfl
@[simp] theorem iwp_lns {x : X} : iwp0 P d (.lns x) K σ = vK K d (runV (.lns x) σ) := v0p rfl rfl
@[simp] theorem iwp_mnx {m : Bool} {x y : X} : iwp0 P d (.mnx m x y) K σ = vK K d (runV (.mnx m x y) σ) := v0p rfl rfl
@[simp] theorem iwp_ext {i : Nat} {x : X} : iwp0 P d (.ext i x) K σ = vK K d (runV (.ext i x) σ) := v0p rfl rfl
@[simp] theorem iwp_fld {o n : Nat} {ag : Bool} {x : X} : iwp0 P d (.fld o n ag x) K σ = vK K d (runV (.fld o n ag x) σ) := v0p rfl rfl
@[simp] theorem iwp_idx {x i : X} : iwp0 P d (.idx x i) K σ = vK K d (runV (.idx x i) σ) := v0p rfl rfl
@[simp] theorem iwp_idxa {m e : Nat} {ag : Bool} {x i : X} : iwp0 P d (.idxa m e ag x i) K σ = vK K d (runV (.idxa m e ag x i) σ) := v0p rfl rfl
@[simp] theorem iwp_mkf {f : Nat} {xs : List X} : iwp0 P d (.mkf f xs) K σ = vK K d (runV (.mkf f xs) σ) := v0p rfl rfl
@[simp] theorem iwp_iaa {m e : Nat} {x i : X} : iwp0 P d (.iaa m e x i) K σ = vK K d (runV (.iaa m e x i) σ) := v0p rfl rfl
@[simp] theorem e1c {f : Nat} {js : List Nat} {xs : List X} : iwp0 P d (.calln f js xs) K σ = e0j P d f (q0q (u17 σ xs js)) xs [] K σ := rfl
@[simp] theorem iwp_nil {x : X} : iwp0 P d (.nil x) K σ = vK K d (runV (.nil x) σ) := v0p rfl rfl
@[simp] theorem iwp_bld {fz : Bool} {z : List C} {ps : List (Nat × Nat × X)} : iwp0 P d (.bld fz z ps) K σ = mK K (runM d (.bld fz z ps) σ) := m05 rfl
@[simp] theorem iwp_fad {o : Nat} {x : X} : iwp0 P d (.fad o x) K σ = vK K d (runV (.fad o x) σ) := v0p rfl rfl
@[simp] theorem iwp_iad {e : Nat} {x i : X} : iwp0 P d (.iad e x i) K σ = vK K d (runV (.iad e x i) σ) := v0p rfl rfl
@[simp] theorem iwp_ld {n : Nat} {ag : Bool} {x : X} : iwp0 P d (.ld n ag x) K σ = vK K d (runV (.ld n ag x) σ) := v0p rfl rfl
@[simp] theorem iwp_slc {e : Nat} {x : X} {lo hi : Option X} : iwp0 P d (.slc e x lo hi) K σ = vK K d (runV (.slc e x lo hi) σ) := v0p rfl rfl
@[simp] theorem iwp_sls {x : X} {lo hi : Option X} : iwp0 P d (.sls x lo hi) K σ = vK K d (runV (.sls x lo hi) σ) := v0p rfl rfl
@[simp] theorem iwp_asn {x : X} : iwp0 P d (.asn x) K σ = mK K (runM d (.asn x) σ) := m05 rfl
@[simp] theorem iwp_asf {x : X} : iwp0 P d (.asf x) K σ = mK K (runM d (.asf x) σ) := m05 rfl
@[simp] theorem k1b {f : Nat} {ns : List Nat} {xs : List X} : iwp0 P d (.callz f ns xs) K σ = z18 P d f ns xs K σ := rfl
@[simp] theorem l13 {f : Nat} {ns : List Nat} {x : X} {xs : List X} : iwp0 P d (.callzr f ns x xs) K σ = h0g P d f ns x xs K σ := rfl
@[simp] theorem g13 {f : Nat} {xs : List X} : iwp0 P d (.callf f xs) K σ = r0g P d f xs (frzK d K) σ := rfl
@[simp] theorem frzK_s {n : Nat} : frzK (some n) K σ = o1z K (frzT σ n) := rfl
@[simp] theorem frzK1_s : o1z K (some σ) = K σ := rfl
@[simp] theorem k1y {f : Nat} {x : X} {xs : List X} : x1f P d f x xs K (some σ) = f01 P d f x xs K σ := rfl
@[simp] theorem callZK_s {f : Nat} {xs : List X} : s1c P d f xs K (some σ) = r0g P d f xs K σ := rfl
@[simp] theorem iwp_box {t e : Nat} {x : X} : iwp0 P d (.box t e x) K σ = mK K (runM d (.box t e x) σ) := m05 rfl
@[simp] theorem iwp_boxs {e : Nat} {x : X} : iwp0 P d (.boxs e x) K σ = mK K (runM d (.boxs e x) σ) := m05 rfl
@[simp] theorem iwp_alc {t e : Nat} {z : List C} : iwp0 P d (.alc t e z) K σ = mK K (runM d (.alc t e z) σ) := m05 rfl
@[simp] theorem iwp_st {n : Nat} {fz : Bool} {p v : X} : iwp0 P d (.st n fz p v) K σ = mK K (runM d (.st n fz p v) σ) := m05 rfl
@[simp] theorem iwp_bls {t e : Nat} {fz : Bool} {ps : List X} : iwp0 P d (.bls t e fz ps) K σ = mK K (runM d (.bls t e fz ps) σ) := m05 rfl
@[simp] theorem iwp_mks {t e b : Nat} {z : List C} {l c : X} : iwp0 P d (.mks t e b z l c) K σ = mK K (runM d (.mks t e b z l c) σ) := m05 rfl
@[simp] theorem iwp_app {t e b : Nat} {fz : Bool} {s x : X} : iwp0 P d (.app t e b fz s x) K σ = mK K (runM d (.app t e b fz s x) σ) := m05 rfl
@[simp] theorem h19 {f k : Nat} {xs : List X} : iwp0 P d (.callo f k xs) K σ = y1u P d f k xs K σ := rfl
@[simp] theorem g1q {x : X} {xs : List X} : iwp0 P d (.callv x xs) K σ = l07 P d xs K σ (ev σ x) := rfl
@[simp] theorem k11 {f : Nat} {x : X} {xs : List X} : iwp0 P d (.callr f x xs) K σ = f01 P d f x xs K σ := rfl
@[simp] theorem iwp_call {f : Nat} {xs : List X} : iwp0 P d (.call f xs) K σ = r0g P d f xs K σ := rfl
def fpK (R : A → List (Nat × Obj) → Prop) : Option (List (Bool × List C) × St) → Prop
 | some (xs, σ1) => R (k02 xs) (outs σ1.ob)
 | none => False
@[simp] theorem fpK_some {R : A → List (Nat × Obj) → Prop} {xs : List (Bool × List C)} {σ1 : St} : fpK R (some (xs, σ1)) = R (k02 xs) (outs σ1.ob) := rfl
@[simp] theorem m17 {rs : List RV} {R : A → List (Nat × Obj) → Prop} {σ : St} : t0s rs R .r σ = fpK R (q0f σ rs) := by
  simp only [t0s, fpK, eq_iff_iff]
  constructor
  ·rintro ⟨xs, σ1, h, hr⟩; rw [h]; exact hr
  ·intro h; split at h
   ·rename_i h1; exact ⟨_, _, h1, h⟩
   ·exact h.elim
@[simp] theorem FPost_n {rs : List RV} {R : A → List (Nat × Obj) → Prop} {σ : St} : t0s rs R .n σ = fpK R (q0f σ rs) := by
  rw [← m17]; rfl
end
end Go.Am
namespace Go.Am
def z06 (P : Program) (f : FuncId) (args : List A) (v : A) : Prop := CallsA P f args [] fun r H => H = [] ∧ r = v
def o1y (P : Program) (d : Option Nat) (f : Nat) (K : St → Prop) (b : Bool) (as : List A) (σ : St) : Prop :=
 CallsA P f as [] fun r H' => H' = [] ∧ (b = true → u0p r = true) ∧ K (setT σ d r)
def r1j (P : Program) (d : Option Nat) (f : Nat) (K : St → Prop) : Option (Bool × List A × St) → Prop
 | some (b, as, σ1) => o1y P d f K b as σ1
 | none => False
@[simp] theorem l19 {P : Program} {d : Option Nat} {f : Nat} {K : St → Prop} {b : Bool} {as : List A} {σ : St} : r1j P d f K (some (b, as, σ)) = o1y P d f K b as σ := rfl
@[simp] theorem callS_K {P : Program} {d : Option Nat} {f : Nat} {xs : List X} {K : St → Prop} {σ : St} : r0g P d f xs K σ = r1j P d f K (u07 σ xs) := by
  unfold r0g r1j
  split <;> rename_i h <;> rw [h] <;> rfl
theorem l0z {P : Program} {d : Option Nat} {f : Nat} {K : St → Prop} {b : Bool} {as : List A} {σ : St} {v : A} (h : z06 P f as v) (hn : b = true → u0p v = true) (k : K (setT σ d v)) : c07 P d f K b as σ :=
 CallsA.mono h fun _ _ ⟨h1, h2⟩ => ⟨h1, by rw [h2]; exact hn, by rw [h2]; exact k⟩
theorem z02 {P : Program} {d : Option Nat} {f : Nat} {K : St → Prop} {b : Bool} {as : List A} {σ : St} {v : A} (h : z06 P f as v) (hn : b = true → u0p v = true) (k : K (setT σ d v)) : o1y P d f K b as σ :=
 CallsA.mono h fun _ _ ⟨h1, h2⟩ => ⟨h1, by rw [h2]; exact hn, by rw [h2]; exact k⟩
theorem n0r {P : Program} {T : List (Nat × TI)} {fs : List Nat} (hT : TOK P T) (hF : FOK P fs) (an : An) (hmo : an.mo = true → P.follows .mixedOrders = true) {f : FuncId} {k : K} {r : Nat × List RV} {args : List A} {v : A}
 (hc : cmpS T fs an (P.funcs[f]?) = some (r.1, r.2, x07 k)) (hn : args.length ≤ r.1) (hn2 : args.length ≤ 1000) (h : awp P k (t0s r.2 fun a H => H = [] ∧ a = v) (n0c args [])) : z06 P f args v :=
 s0n hT hF an hmo hc hn hn2 h
end Go.Am
namespace Go.Am
section
variable {P : Program} {Q : Ex → St → Prop} {σ : St} {d : Option Nat} {K : St → Prop}
@[simp] theorem awp_grp {kp : Option (List Nat × List Nat)} {n : Nat} {qs gs : List Nat} {is : List Ins} : awp P (.grp kp n qs gs is) Q σ = qvp (y0x is qs) (fun σ0 => gwp P (dsOf (y0x is gs)) (y0x is gs) [] (x0u P (is.drop n) (z1g Q)) σ0) (t0e kp σ) := rfl
def qvK (r : List Ins) (d : Option Nat) (K : St → Prop) : Option (A × St) → Prop
 | some (a, σ1) => qvp r K (setT σ1 d a)
 | none => False
@[simp] theorem qvK_some {r : List Ins} {d : Option Nat} {K : St → Prop} {a : A} {σ1 : St} : qvK r d K (some (a, σ1)) = qvp r K (setT σ1 d a) := rfl
@[simp] theorem qvp_nil {K : St → Prop} : qvp [] K σ = K σ := rfl
@[simp] theorem qvp_cons {d : Option Nat} {i : I} {r : List Ins} {K : St → Prop} : qvp (⟨d, none, i⟩ :: r) K σ = qvK r d K (runV i σ) := by
  simp only [qvp, qvK]
  cases runV i σ with
  | none => rfl
  | some p => obtain ⟨a, s⟩ := p; rfl
@[simp] theorem gwp_nil {dl : List Nat} {es : List (Nat × A)} {K : St → Prop} : gwp P dl [] es K σ = K { tm := es ++ delL dl σ.tm, ob := σ.ob } := rfl
@[simp] theorem gwp_cons {dl : List Nat} {d f : Nat} {xs : List X} {r : List Ins} {es : List (Nat × A)} {K : St → Prop} : gwp P dl (⟨some d, none, .call f xs⟩ :: r) es K σ = gcal P f (fun v => gwp P dl r (es ++ [(d, v)]) K σ) (m03 σ xs) := rfl
@[simp] theorem awp_flt {kp : Option (List Nat × List Nat)} {t : Nat} {pre is : List Ins} : awp P (.flt kp t pre is) Q σ = n0b P t pre (x0u P is (z1g Q)) (t0e kp σ) := rfl
@[simp] theorem f10 {t : Nat} {K : St → Prop} : n0b P t [] K σ = K σ := rfl
@[simp] theorem j1e {t : Nat} {d : Option Nat} {i : I} {is : List Ins} {K : St → Prop} : n0b P t (⟨d, none, i⟩ :: is) K σ = (look σ.tm t = none ∧ iwp0 P d i (n0b P t is K) σ) := rfl
@[simp] theorem awp_drw {kp : Option (List Nat × List Nat)} {n : Nat} {is : List Ins} : awp P (.drw kp n is) Q σ = qwp P (is.take n) (x0u P (is.drop n) (z1g Q)) (t0e kp σ) := rfl
@[simp] theorem qwp_nil {K : St → Prop} : qwp P [] K σ = K σ := rfl
@[simp] theorem qwp_one {i : I} {is : List Ins} : qwp P (⟨d, none, i⟩ :: is) K σ = iwq0 P d i (qwp P is K) σ := rfl
def grqK (P : Program) (d : Option Nat) (i : I) (want : Bool) (K : St → Prop) (σ : St) (b : Bool) : Prop := if b = want then iwq0 P d i K σ else K (setT σ d (.tup []))
@[simp] theorem grqK_tt {i : I} : grqK P d i true K σ true = iwq0 P d i K σ := rfl
@[simp] theorem grqK_ff {i : I} : grqK P d i false K σ false = iwq0 P d i K σ := rfl
@[simp] theorem grqK_tf {i : I} : grqK P d i true K σ false = K (setT σ d (.tup [])) := rfl
@[simp] theorem grqK_ft {i : I} : grqK P d i false K σ true = K (setT σ d (.tup [])) := rfl
def grqA (P : Program) (d : Option Nat) (i : I) (want : Bool) (K : St → Prop) (σ : St) : Option A → Prop
 | some (.one (.bool b)) => grqK P d i want K σ b
 | some (.tup []) => K (setT σ d (.tup []))
 | _ => False
@[simp] theorem grqA_u {i : I} {want : Bool} : grqA P d i want K σ (some (.tup [])) = K (setT σ d (.tup [])) := rfl
@[simp] theorem grqA_b {i : I} {want t : Bool} : grqA P d i want K σ (some (.one (.bool t))) = grqK P d i want K σ t := rfl
@[simp] theorem qwp_grd {t : Nat} {want : Bool} {i : I} {is : List Ins} : qwp P (⟨d, some (t, want), i⟩ :: is) K σ = grqA P d i want (qwp P is K) σ (look σ.tm t) := by
  simp only [qwp, iwq, grqA, grqK] <;> (split <;> simp_all)
theorem v0s {i : I} (h : m0o i = false) : iwq0 P d i K σ = vK K d (runV i σ) := by
 unfold iwq0
 split
 ·cases h
 ·cases h
 ·cases runV i σ with
  | none => rfl
  | some p => obtain ⟨a, s⟩ := p; rfl
@[simp] theorem iwq_mv {x : X} : iwq0 P d (.mv x) K σ = vK K d (runV (.mv x) σ) := v0s rfl
@[simp] theorem iwq_als {x : X} : iwq0 P d (.als x) K σ = vK K d (runV (.als x) σ) := v0s rfl
@[simp] theorem iwq_pick {c a b : X} : iwq0 P d (.pick c a b) K σ = vK K d (runV (.pick c a b) σ) := v0s rfl
@[simp] theorem iwq_bin {o : BinOp} {x y : X} : iwq0 P d (.bin o x y) K σ = vK K d (runV (.bin o x y) σ) := v0s rfl
@[simp] theorem iwq_beq {ne : Bool} {x y : X} : iwq0 P d (.beq ne x y) K σ = vK K d (runV (.beq ne x y) σ) := v0s rfl
@[simp] theorem iwq_not {x : X} : iwq0 P d (.not x) K σ = vK K d (runV (.not x) σ) := v0s rfl
@[simp] theorem iwq_neg {x : X} : iwq0 P d (.neg x) K σ = vK K d (runV (.neg x) σ) := v0s rfl
@[simp] theorem iwq_conv {k : IntKind} {x : X} : iwq0 P d (.conv k x) K σ = vK K d (runV (.conv k x) σ) := v0s rfl
@[simp] theorem iwq_sqe {ne : Bool} {ks : List Bool} {x y : X} : iwq0 P d (.sqe ne ks x y) K σ = vK K d (runV (.sqe ne ks x y) σ) := v0s rfl
@[simp] theorem iwq_b2s {x : X} : iwq0 P d (.b2s x) K σ = vK K d (runV (.b2s x) σ) := v0s rfl
@[simp] theorem iwq_len {x : X} : iwq0 P d (.len x) K σ = vK K d (runV (.len x) σ) := v0s rfl
@[simp] theorem iwq_lns {x : X} : iwq0 P d (.lns x) K σ = vK K d (runV (.lns x) σ) := v0s rfl
@[simp] theorem iwq_mnx {m : Bool} {x y : X} : iwq0 P d (.mnx m x y) K σ = vK K d (runV (.mnx m x y) σ) := v0s rfl
@[simp] theorem iwq_ext {i : Nat} {x : X} : iwq0 P d (.ext i x) K σ = vK K d (runV (.ext i x) σ) := v0s rfl
@[simp] theorem iwq_fld {o n : Nat} {g : Bool} {x : X} : iwq0 P d (.fld o n g x) K σ = vK K d (runV (.fld o n g x) σ) := v0s rfl
@[simp] theorem iwq_idx {x i : X} : iwq0 P d (.idx x i) K σ = vK K d (runV (.idx x i) σ) := v0s rfl
@[simp] theorem iwq_idxa {m e : Nat} {g : Bool} {x i : X} : iwq0 P d (.idxa m e g x i) K σ = vK K d (runV (.idxa m e g x i) σ) := v0s rfl
@[simp] theorem iwq_mkf {f : Nat} {xs : List X} : iwq0 P d (.mkf f xs) K σ = vK K d (runV (.mkf f xs) σ) := v0s rfl
@[simp] theorem iwq_iaa {m e : Nat} {x i : X} : iwq0 P d (.iaa m e x i) K σ = vK K d (runV (.iaa m e x i) σ) := v0s rfl
@[simp] theorem iwq_nil {x : X} : iwq0 P d (.nil x) K σ = vK K d (runV (.nil x) σ) := v0s rfl
@[simp] theorem iwq_fad {o : Nat} {p : X} : iwq0 P d (.fad o p) K σ = vK K d (runV (.fad o p) σ) := v0s rfl
@[simp] theorem iwq_iad {e : Nat} {x i : X} : iwq0 P d (.iad e x i) K σ = vK K d (runV (.iad e x i) σ) := v0s rfl
@[simp] theorem iwq_ld {n : Nat} {g : Bool} {p : X} : iwq0 P d (.ld n g p) K σ = vK K d (runV (.ld n g p) σ) := v0s rfl
@[simp] theorem iwq_slc {e : Nat} {x : X} {l h : Option X} : iwq0 P d (.slc e x l h) K σ = vK K d (runV (.slc e x l h) σ) := v0s rfl
@[simp] theorem iwq_sls {x : X} {l h : Option X} : iwq0 P d (.sls x l h) K σ = vK K d (runV (.sls x l h) σ) := v0s rfl
def x1b (P : Program) (d : Option Nat) (f : Nat) (K : St → Prop) : Option (Bool × List A × St) → Prop
 | some (_, as, σ1) => ∃ r : A, r.scA = true ∧ z06 P f as r ∧ K (setT σ1 d r)
 | none => False
@[simp] theorem l16 {f : Nat} {b : Bool} {as : List A} {σ1 : St} : x1b P d f K (some (b, as, σ1)) = ∃ r : A, r.scA = true ∧ z06 P f as r ∧ K (setT σ1 d r) := rfl
theorem s19 {f : Nat} {xs : List X} : iwqC P d f xs K σ = x1b P d f K (u07 σ xs) := by
 simp only [iwqC, x1b, z06]
 try (split <;> rename_i h <;> rw [h])
@[simp] theorem iwq_call {f : Nat} {xs : List X} : iwq0 P d (.call f xs) K σ = x1b P d f K (u07 σ xs) := s19
@[simp] theorem h1t {x : X} {xs : List X} : iwq0 P d (.callv x xs) K σ = iwqV P d xs K σ (ev σ x) := rfl
@[simp] theorem iwqV_f {f : Nat} {xs : List X} : iwqV P d xs K σ (some (.one (.fn f []))) = (FnOk P f ∧ x1b P d f K (u07 σ xs)) := by
  rw [← s19]; rfl
@[simp] theorem callVK_f {f : Nat} {xs : List X} : l07 P d xs K σ (some (.one (.fn f []))) = (FnOk P f ∧ r0g P d f xs K σ) := by
  simp only [l07, x0a, h0u, m0v, r0g]
  congr 1
  cases u07 σ xs with
  | none => rfl
  | some p => obtain ⟨b, as, σ1⟩ := p; simp only [c07, q0l, List.append_nil]
theorem j0a {f : Nat} {cap : List C} {xs : List X} : l07 P d xs K σ (some (.one (.fn f cap))) = (FnOk P f ∧ h0u P d f xs cap K σ (x0a (fun _ _ => true) cap)) := rfl
@[simp] theorem callVC_f {f : Nat} {cap : List C} {xs : List X} : h0u P d f xs cap K σ false = m0v P d f cap K (u07 σ xs) := rfl
@[simp] theorem callVC_t {f : Nat} {cap : List C} {xs : List X} : h0u P d f xs cap K σ true = e0j P d f (q0q (n07 cap)) xs cap K σ := rfl
end
end Go.Am
namespace Go.Am
attribute [simp] frzC a0r frzA frzT frzL z18 h0g b03 evCs v0u u00 m07 m0a n1m n07 s16 q0q renN g0j delN a04 inN q0l g0q g0b f0l e0j m0v u17
attribute [simp] insO eqSc y0x dsOf m03 delL o07 t1q o0z y10 y1u e0i g0f i0c u0g n0f r08 hobs f01 e03 j0b f0r k0w g0n g0v f0p i13 l0e u1o fsOf j03 p0j renM ren1 renX renA renC j00 p0f t0m runV runM ev w0h setT look put del A.aff C.aff t01 w0r A.ref C.ref x0a b0q h0y t1j u1g j0j q0k n0h r07 h0r o03 n0c q08 t0e sel q0f i0l p0c u0e s05 l0f C.plain C.scal k02 mkA outs u07 r01 v0r u0f getA setA v0l v09 u0p noSh w0c y07 c0u deep i0h f0v A.scA C.sc w0n g0d s06 b0m shr y08 z0n t0a
attribute [simp] Int.toNat_natCast List.getElem?_map
theorem z08 {n : Int} (h : -9223372036854775808 ≤ n) (h2 : n < 9223372036854775808) : IntKind.i64.wrap n = n := by
 have e : IntKind.i64.wrap n = if n % 18446744073709551616 ≥ 9223372036854775808 then n % 18446744073709551616 - 18446744073709551616 else n % 18446744073709551616 := by
  simp [IntKind.wrap, IntKind.bits, IntKind.signed]
 rw [e]
 split <;> omega
abbrev aI (n : Int) : A := .one (.int .i64 n)
abbrev aB (b : Bool) : A := .one (.bool b)
abbrev aS (s : ByteArray) : A := .one (.str s)
abbrev cI (n : Int) : C := .int .i64 n
abbrev rI (n : Int) : List C := [.int .i64 n]
@[simp] theorem intBne (a b : Int) : (a != b) = decide (¬ a = b) := by
  by_cases h : a = b <;> simp [h]
@[simp] theorem intBeq (a b : Int) : (a == b) = decide (a = b) := by
  by_cases h : a = b <;> simp [h]
end Go.Am
namespace Go.Am
theorem j0u {α : Type} {xs ys : List α} {i : Nat} (h1 : i < xs.length) (h2 : i < ys.length) : xs.take (i + 1) = ys.take (i + 1) ↔ xs.take i = ys.take i ∧ xs[i] = ys[i] := by
 rw [List.take_succ_eq_append_getElem h1, List.take_succ_eq_append_getElem h2]
 constructor
 ·intro h
  have := List.append_inj h (by simp; omega)
  exact ⟨this.1, by simpa using this.2⟩
 ·rintro ⟨h, h'⟩; rw [h, h']
def part {α : Type} (r : α → List C) (z : List C) (xs : List α) (i : Nat) : List (List C) := (xs.take i).map r ++ List.replicate (xs.length - i) z
theorem w09 {α : Type} {r : α → List C} {z : List C} {xs : List α} {i : Nat} (h : i < xs.length) : (part r z xs i)[i]? = some z := by
 rw [part, List.getElem?_append_right (by simp; omega)]
 simp [List.getElem?_replicate]; omega
theorem w0a {α : Type} {r : α → List C} {z : List C} {xs : List α} {i : Nat} (h : i < xs.length) : (part r z xs i).set i (r xs[i]) = part r z xs (i + 1) := by
 apply List.ext_getElem?
 intro k
 simp only [part, List.getElem?_set, List.getElem?_append, List.getElem?_map, List.length_map, List.length_take, List.length_append, List.length_replicate, List.getElem?_take, List.getElem?_replicate]
 rcases Nat.lt_trichotomy k i with hk | hk | hk
 ·simp [show ¬ i = k by omega, show k < min i xs.length by omega, show k < min (i + 1) xs.length by omega, hk, show k < i + 1 by omega]
 ·subst hk
  simp [show k < min k xs.length + (xs.length - k) by omega, show k < min (k + 1) xs.length by omega, h]
 ·have e1 : min i xs.length = i := by omega
  have e2 : min (i + 1) xs.length = i + 1 := by omega
  simp only [e1, e2, show ¬ i = k by omega, if_false, show ¬ k < i by omega, show ¬ k < i + 1 by omega]
  by_cases h3 : k < xs.length
  ·rw [if_pos (by omega), if_pos (by omega)]
  ·rw [if_neg (by omega), if_neg (by omega)]
theorem w06 {α : Type} {r : α → List C} {z : List C} {xs : List α} : part r z xs xs.length = xs.map r := by simp [part]
theorem x0f {α : Type} {r : α → List C} {z : List C} {xs : List α} : part r z xs 0 = List.replicate xs.length z := by simp [part]
@[simp] theorem s13 {α β : Type} (f : α → β) (xs : List α) : (xs.map f).take xs.length = xs.map f := List.take_of_length_le (by simp)
theorem z0q {α : Type} {r s : α → List C} (h : ∀ a, y08 (r a) = s a) (xs : List α) : z0n (xs.map r) = xs.map s := by
 rw [u0h, List.map_map]
 exact List.map_congr_left fun a _ => h a
theorem w05 {α : Type} {r : α → List C} (h : ∀ a, w0c (r a) = true) : ∀ xs : List α, y07 (xs.map r) = true
 | [] => rfl
 | x :: xs => by simp only [List.map_cons, y07, h x, w05 h xs, Bool.and_self]
@[simp] theorem f1v (n : Int) : y08 (rI n) = rI n := rfl
@[simp] theorem f08 (xs : List Int) : z0n (xs.map rI) = xs.map rI := z0q f1v xs
@[simp] theorem noSh_rI (xs : List Int) : y07 (xs.map rI) = true := w05 (fun _ => rfl) xs
def wL {α : Type} (w : α → Nat) : List α → Nat
 | [] => 0
 | x :: xs => 1 + w x + wL w xs
theorem y0u {α : Type} (w : α → Nat) : ∀ xs ys : List α, wL w (xs ++ ys) = wL w xs + wL w ys
 | [], ys => by simp [wL]
 | x :: xs, ys => by simp only [List.cons_append, wL, y0u w xs ys]; omega
theorem z0a {α : Type} (w : α → Nat) : ∀ xs : List α, xs.length ≤ wL w xs
 | [] => Nat.le_refl _
 | x :: xs => by have := z0a w xs; simp only [List.length_cons, wL]; omega
theorem z0e {α : Type} (w : α → Nat) : ∀ (xs : List α) (i : Nat) (h : i < xs.length), w xs[i] + xs.length ≤ wL w xs
 | x :: xs, 0, _ => by have := z0a w xs; simp only [List.getElem_cons_zero, List.length_cons, wL]; omega
 | x :: xs, i + 1, h => by
   have := z0e w xs i (by simpa using h)
   simp only [List.getElem_cons_succ, List.length_cons, wL]; omega
theorem u0w {α : Type} (w : α → Nat) {xs : List α} {i : Nat} (h : i < xs.length) : wL w (xs.take (i + 1)) = wL w (xs.take i) + 1 + w xs[i] := by
 rw [List.take_succ_eq_append_getElem h, y0u]
 simp [wL]; omega
theorem x0g {α : Type} (w : α → Nat) (xs : List α) (i : Nat) : wL w (xs.take i) ≤ wL w xs := by
 have := y0u w (xs.take i) (xs.drop i)
 rw [List.take_append_drop] at this
 omega
def w0 : Int → Nat := fun _ => 0
theorem u0n : ∀ xs : List Int, wL w0 xs = xs.length
 | [] => rfl
 | x :: xs => by simp only [wL, w0, u0n xs, List.length_cons]; omega
def lL {α : Type} (l : α → Prop) (xs : List α) : Prop := xs.length < 2 ^ 63 ∧ ∀ (i : Nat) (h : i < xs.length), l xs[i]
def l0 : Int → Prop := fun n => -9223372036854775808 ≤ n ∧ n < 9223372036854775808
def lft (left : Int) (w : Nat) : Int := if left - w < 0 then -1 else left - w
theorem z0i {left : Int} {w : Nat} (h : left < w) : lft left w = -1 := by unfold lft; rw [if_pos (by omega)]
theorem z0u {left : Int} {w : Nat} (h : w ≤ left) : lft left w = left - w := by unfold lft; rw [if_neg (by omega)]
def h0c : Nat → Nat → List UInt8
 | 0, _ => []
 | f + 1, n => if n = 0 then [] else h0c f (n / 10) ++ [UInt8.ofNat (48 + n % 10)]
def digs (n : Nat) : List UInt8 := h0c n n
def mtx (k : Int) : ByteArray := if k ≤ 0 then ⟨#[109, 48]⟩ else ⟨(109 :: digs k.toNat).toArray⟩
structure Mk (α : Type) where
 wr : α → Int → α
 n : α → Nat
def Mk.nL {α : Type} (M : Mk α) : List α → Nat
 | [] => 0
 | x :: xs => M.n x + M.nL xs
def Mk.mkL {α : Type} (M : Mk α) : List α → Int → List α
 | [], _ => []
 | x :: xs, k => M.wr x k :: M.mkL xs (k + M.n x)
def Mk.L {α : Type} (M : Mk α) : Mk (List α) := ⟨M.mkL, M.nL⟩
def mI : Mk Int := ⟨fun _ k => k, fun _ => 1⟩
@[simp] theorem mI_wr (a k : Int) : mI.wr a k = k := rfl
@[simp] theorem mI_n1 (a : Int) : mI.n a = 1 := rfl
theorem mI_n : ∀ xs : List Int, mI.nL xs = xs.length
 | [] => rfl
 | x :: xs => by rw [Mk.nL, mI_n xs, List.length_cons, Nat.add_comm]; rfl
section
variable {α : Type} {M : Mk α} {xs : List α} {k : Int} {i : Nat}
def Mk.upto (M : Mk α) (xs : List α) (k : Int) (i : Nat) : List α := M.mkL (xs.take i) k ++ xs.drop i
def Mk.pos (M : Mk α) (xs : List α) (k : Int) (i : Nat) : Int := k + M.nL (xs.take i)
@[simp] theorem Mk.mkL_len (M : Mk α) : ∀ (xs : List α) (k : Int), (M.mkL xs k).length = xs.length
  | [], _ => rfl
  | x :: xs, k => by simp [Mk.mkL, Mk.mkL_len M xs]
@[simp] theorem r11 {β : Type} (f : α → β) (M : Mk α) (xs : List α) (k : Int) : ((M.mkL xs k).map f).take xs.length = (M.mkL xs k).map f := List.take_of_length_le (by simp)
theorem Mk.mkL_append (M : Mk α) : ∀ (xs ys : List α) (k : Int), M.mkL (xs ++ ys) k = M.mkL xs k ++ M.mkL ys (k + M.nL xs)
 | [], ys, k => by simp [Mk.mkL, Mk.nL]
 | x :: xs, ys, k => by
   simp only [List.cons_append, Mk.mkL, Mk.nL, Mk.mkL_append M xs ys, List.cons.injEq, true_and]
   congr 2
   push_cast; omega
theorem Mk.nL_append (M : Mk α) : ∀ (xs ys : List α), M.nL (xs ++ ys) = M.nL xs + M.nL ys
 | [], ys => by simp [Mk.nL]
 | x :: xs, ys => by simp only [List.cons_append, Mk.nL, Mk.nL_append M xs ys]; omega
@[simp] theorem Mk.upto_len : (M.upto xs k i).length = xs.length := by simp [Mk.upto]; omega
theorem Mk.upto_get (h : i < xs.length) : (M.upto xs k i)[i]? = some xs[i] := by
 have e : (M.mkL (xs.take i) k).length = i := by simp; omega
 simp only [Mk.upto]
 rw [List.getElem?_append_right (by omega), e, List.getElem?_drop]
 simp [h]
theorem Mk.pos_step (h : i < xs.length) : M.pos xs k (i + 1) = M.pos xs k i + M.n xs[i] := by
 simp only [Mk.pos]
 rw [List.take_succ_eq_append_getElem h, Mk.nL_append]
 simp [Mk.nL]; omega
theorem Mk.upto_set (h : i < xs.length) : (M.upto xs k i).set i (M.wr xs[i] (M.pos xs k i)) = M.upto xs k (i + 1) := by
 have e : (M.mkL (xs.take i) k).length = i := by simp; omega
 simp only [Mk.upto]
 rw [List.set_append_right _ _ (by omega), e, Nat.sub_self, List.drop_eq_getElem_cons h, List.set_cons_zero, List.take_succ_eq_append_getElem h, Mk.mkL_append]
 simp [Mk.mkL, Mk.pos]
theorem Mk.upto_zero : M.upto xs k 0 = xs := by simp [Mk.upto, Mk.mkL]
theorem Mk.upto_all : M.upto xs k xs.length = M.mkL xs k := by simp [Mk.upto]
theorem Mk.pos_zero : M.pos xs k 0 = k := by simp [Mk.pos, Mk.nL]
theorem Mk.pos_all : M.pos xs k xs.length = k + M.nL xs := by simp [Mk.pos]
theorem Mk.pos_le (h : i ≤ xs.length) : M.pos xs k i ≤ k + M.nL xs := by
 have := Mk.nL_append M (xs.take i) (xs.drop i)
 rw [List.take_append_drop] at this
 simp only [Mk.pos]; omega
theorem Mk.pos_ge : k ≤ M.pos xs k i := by simp only [Mk.pos]; omega
theorem Mk.mkL_get : ∀ {xs : List α} {k : Int} {i : Nat} (h : i < xs.length), (M.mkL xs k)[i]? = some (M.wr xs[i] (M.pos xs k i))
 | x :: xs, k, 0, _ => by simp [Mk.mkL, Mk.pos, Mk.nL]
 | x :: xs, k, i + 1, h => by
   have := Mk.mkL_get (xs := xs) (k := k + M.n x) (i := i) (by simpa using h)
   simp only [Mk.mkL, List.getElem?_cons_succ, this, List.getElem_cons_succ, Mk.pos, List.take_succ_cons, Mk.nL]
   congr 2
   push_cast; omega
theorem Mk.mkL_at {xs : List α} {k : Int} {i : Nat} (h : i < xs.length) (h' : i < (M.mkL xs k).length) : (M.mkL xs k)[i] = M.wr xs[i] (M.pos xs k i) := by
 have := Mk.mkL_get (M := M) (k := k) h
 rw [List.getElem?_eq_getElem h'] at this
 exact Option.some.inj this
theorem Mk.upto_at {xs : List α} {k : Int} {i : Nat} (h : i < xs.length) (h' : i < (M.upto xs k i).length) : (M.upto xs k i)[i] = xs[i] := by
 have := Mk.upto_get (M := M) (k := k) h
 rw [List.getElem?_eq_getElem h'] at this
 exact Option.some.inj this
end
theorem v0y {P : Program} {f : Nat} {Kv : A → Prop} {b : Bool} {as : List A} {v : A} (h : z06 P f as v) (hn : b = true → u0p v = true) (k : Kv v) : gcal P f Kv (some (b, as)) := ⟨v, h, hn, k⟩
theorem y0g {P : Program} {d : Option Nat} {f : Nat} {K : St → Prop} {b : Bool} {as : List A} {σ1 : St} {v : A} (h : z06 P f as v) (hn : b = true → u0p v = true) (k : K (setT { tm := w0r deep σ1.tm, ob := σ1.ob } d v)) : y15 P d f K b as σ1 :=
 CallsA.mono h fun _ _ ⟨h1, h2⟩ => ⟨h1, by rw [h2]; exact hn, by rw [h2]; exact k⟩
theorem r1y {P : Program} {fs : List Nat} (hF : FOK P fs) {f : Nat} (h : fs.contains f = true) : FnOk P f := by
 have h1 := f02 hF (by simpa using h : f ∈ fs)
 unfold FOK1 at h1
 obtain ⟨fn, h2, h3⟩ := y06 h1
 simp only [Prod.mk.injEq] at h3
 exact ⟨fn, h2, h3.1, h3.2⟩
def v03 (P : Program) (f : FuncId) (args : List A) (o o' : Obj) (v : A) : Prop := CallsA P f args [(1000, o)] fun r H => H = [(1000, o')] ∧ r = v
theorem z0z {P : Program} {d : Option Nat} {f : Nat} {K : St → Prop} {root : Nat} {st0 : Path} {o o1 o' : Obj} {b : Bool} {as : List A} {σ1 : St} {v : A} (h : v03 P f as o1 o' v) (ht : o'.t = o1.t) (he : o'.e = o1.e)
 (hl : st0 = [] ∨ o'.xs.length = o1.xs.length) (hn : b = true → u0p v = true ∧ y07 o'.xs = true)
 (k : K (setT { tm := w0r deep σ1.tm, ob := put σ1.ob root ⟨o.t, o.e, setA o.xs st0 o'.xs⟩ } d v)) : y1s P d f K root st0 o o1 b as σ1 :=
 CallsA.mono h fun r H ⟨hH, hr⟩ => ⟨o', hH, ht, he, hl, by rw [hr]; exact hn, by rw [hr]; exact k⟩
theorem c0f {P : Program} {d : Option Nat} {f : Nat} {K : St → Prop} {root i : Nat} {pre : Path} {fs : List Nat} {o o1 : Obj} {row : List C} {os os' : List Obj} {b : Bool} {as : List A} {σ1 : St} {v : A} (h : CallsA P f as (hobs 0 os) fun r H => H = hobs 0 os' ∧ r = v) (hs : same os os')
 (hn : b = true → u0p v = true ∧ r08 (hobs 0 os') = true)
 (k : K (setT { tm := w0r deep σ1.tm, ob := put σ1.ob root ⟨o.t, o.e, setA o.xs pre (o1.xs.set i (p0j 0 row fs os'))⟩ } d v)) : z11 P d f K root pre i fs o o1 row os b as σ1 :=
 CallsA.mono h fun r H ⟨hH, hr⟩ => ⟨os', hH, hs, by rw [hr, hH]; exact hn, by rw [hr]; exact k⟩
end Go.Am
namespace Go.Am
open Go.ChangeShapes Go.WideShapes Go.RowKit
inductive Sh where
 | i
 | s
 | l (e : Nat) (r : List Sh)
mutual
def inSh : Sh → C → Prop
 | .i, c => ∃ n : Int, c = .int .i64 n ∧ l0 n
 | .s, c => ∃ b : ByteArray, c = .str b ∧ b.size < 2 ^ 63
 | .l e r, c => ∃ xs : List (List C), c = .ar false 0 e xs ∧ xs.length < 2 ^ 63 ∧ ∀ x ∈ xs, y0p r x
def y0p : List Sh → List C → Prop
 | [], cs => cs = []
 | h :: r, cs => ∃ c cs', cs = c :: cs' ∧ inSh h c ∧ y0p r cs'
end
theorem i0e : ∀ {r : List Sh} {cs : List C}, y0p r cs → cs.length = r.length
 | [], _, h => by simp only [y0p] at h; simp [h]
 | _ :: r, _, h => by
   simp only [y0p] at h
   obtain ⟨c, cs', rfl, _, h⟩ := h
   simp [i0e h]
theorem p0b : ∀ {r : List Sh} {r' : List Sh} {cs cs' : List C}, y0p r cs → y0p r' cs' → y0p (r ++ r') (cs ++ cs')
 | [], _, _, _, h, h' => by simp only [y0p] at h; subst h; exact h'
 | _ :: r, _, _, _, h, h' => by
   simp only [y0p] at h
   obtain ⟨c, cs1, rfl, h1, h2⟩ := h
   simp only [List.cons_append, y0p]
   exact ⟨c, _, rfl, h1, p0b h2 h'⟩
def shGo (P : Program) (sub : TypeId → Option (List Sh)) : Nat → List Field → Option (List Sh)
 | _, [] => some []
 | o, fl :: fs => if fl.offset = o then
    match sub fl.type with
    | some r => if r.length = P.cellsOf fl.type then
       match shGo P sub (o + P.cellsOf fl.type) fs with
       | some r' => some (r ++ r')
       | none => none
      else none
    | none => none
   else none
def shT (P : Program) : Nat → TypeId → Option (List Sh)
 | 0, _ => none
 | f + 1, t => match P.underlying t with
   | some (.int .i64) => some [.i]
   | some .string => some [.s]
   | some (.slice e) => match shT P f e with
     | some r => if r.length = P.cellsOf e ∧ P.cellsOf e ≠ 0 then some [.l (P.cellsOf e) r] else none
     | none => none
   | some (.struct fs) => (shGo P (shT P f) 0 fs.toList).bind fun r => if r.length = P.cellsOf t then some r else none
   | _ => none
section
variable {H : Type} {enc : TypeId × Value → H} {P : Program} {w : World} {lc : Loc}
def old (w : World) : Nat → Prop := fun b => b < w.heap.size
theorem d09 {α β : Type} {f : α → Option β} : ∀ {xs : List α} {ys : List β}, xs.mapM f = some ys → ys.length = xs.length ∧ ∀ (i : Nat) x, xs[i]? = some x → ∃ y, ys[i]? = some y ∧ f x = some y
 | [], ys, h => by
   simp only [List.mapM_nil, Option.pure_def, Option.some.injEq] at h
   subst h
   exact ⟨rfl, fun i x h => by simp at h⟩
 | x :: xs, ys, h => by
   rw [List.mapM_cons] at h
   cases hx : f x with
   | none => rw [hx] at h; simp at h
   | some y =>
     rw [hx] at h
     cases hr : xs.mapM f with
     | none => rw [hr] at h; simp at h
     | some ys' =>
       rw [hr] at h
       simp only [Option.pure_def, Option.bind_eq_bind, Option.bind_some, Option.some.injEq] at h
       subst h
       obtain ⟨h1, h2⟩ := d09 hr
       refine ⟨by simp [h1], fun i z hz => ?_⟩
       cases i with
       | zero =>
         simp only [List.getElem?_cons_zero, Option.some.injEq] at hz
         subst hz
         exact ⟨y, by simp, hx⟩
       | succ i => simpa using h2 i z (by simpa using hz)
theorem o0r {base n : Nat} {a : Addr} {cs : List Value} (h : w.cells? base a n = some cs) : cs.length = n ∧ ∀ i, i < n → w.cell? (a.add i) = cs[i]? := by
 unfold World.cells? at h
 split at h
 case isFalse => cases h
 obtain ⟨h1, h2⟩ := d09 h
 rw [List.length_range] at h1
 refine ⟨h1, fun i hi => ?_⟩
 obtain ⟨y, hy, hc⟩ := h2 i i (by simp [hi])
 rw [hc, hy]
theorem w18 {a : Addr} {v : Value} (h : w.cell? a = some v) : a.spot = none := by
 unfold World.cell? at h
 split at h
 ·split at h
  ·cases h
  ·rename_i hs
   cases hh : a.spot with
   | none => rfl
   | some x => rw [hh] at hs; simp at hs
 ·cases h
theorem x12 {e : Nat} {r : List Sh} (hr : r.length = e) : ∀ (len : Nat) (vs : List Value), vs.length = len * e → (∀ i, i < len → ∃ row, y0p r row ∧ z0b w (old w) row ((vs.drop (i * e)).take e) fz) →
 ∃ xs : List (List C), xs.length = len ∧ (∀ x ∈ xs, y0p r x) ∧ z09 w (old w) e xs vs fz
 | 0, vs, hl, _ => by
   have : vs = [] := List.eq_nil_of_length_eq_zero (by simpa using hl)
   subst this
   exact ⟨[], rfl, by simp, by simp [z09]⟩
 | len + 1, vs, hl, h => by
   obtain ⟨row, h1, h2⟩ := h 0 (by omega)
   simp only [Nat.zero_mul, List.drop_zero] at h2
   obtain ⟨xs, h3, h4, h5⟩ := x12 hr len (vs.drop e) (by rw [List.length_drop, hl, Nat.add_mul]; omega) fun i hi => by
    obtain ⟨row, h6, h7⟩ := h (i + 1) (by omega)
    refine ⟨row, h6, ?_⟩
    rw [List.drop_drop, Nat.add_comm e, ← Nat.succ_mul]
    exact h7
   refine ⟨row :: xs, by simp [h3], fun x hx => ?_, ?_⟩
   ·rcases List.mem_cons.1 hx with rfl | hx
    ·exact h1
    ·exact h4 x hx
   ·simp only [z09]
    exact ⟨vs.take e, vs.drop e, fz, fz, by simp, by rw [i0e h1, hr], (z0j _).symm, h2, h5⟩
theorem f09 : ∀ {f fuel : Nat} {t : TypeId} {cs : List Value} {r : List Sh} {x : DataW H × List MemPlace}, DataW.trod enc P w 0 (fun _ => true) true fuel t cs = some x → shT P f t = some r → ∃ row, y0p r row ∧ z0b w (old w) row cs fz
 | 0, _, _, _, _, _, _, hs => by simp [shT] at hs
 | f + 1, fuel, t, cs, r, x, h, hs => by
   simp only [shT] at hs
   split at hs
   ·rename_i hu
    simp only [Option.some.injEq] at hs
    subst hs
    obtain ⟨n, rfl, _, hw⟩ := DataW.trod_int hu h
    have hn : l0 n := by
     simp [Lit.wf, IntKind.min, IntKind.max, IntKind.signed, IntKind.bits] at hw
     simp only [l0]; omega
    exact ⟨[.int .i64 n], by simp [y0p, inSh, hn], by simp only [z0b, repC]; exact ⟨_, [], fz, fz, rfl, (z0j _).symm, ⟨rfl, rfl⟩, rfl, rfl⟩⟩
   ·rename_i hu
    simp only [Option.some.injEq] at hs
    subst hs
    obtain ⟨b, rfl, _, hb⟩ := DataW.trod_string hu h
    refine ⟨[.str b], ?_, by simp only [z0b, repC]; exact ⟨_, [], fz, fz, rfl, (z0j _).symm, ⟨rfl, rfl⟩, rfl, rfl⟩⟩
    simp only [y0p, inSh]
    exact ⟨_, [], rfl, ⟨b, rfl, by simp only [maxLen] at hb; omega⟩, rfl⟩
   ·rename_i e hu
    split at hs
    case h_2 => cases hs
    rename_i r' he
    split at hs
    case isFalse => cases hs
    rename_i hlen
    obtain ⟨hlen, hne0⟩ := hlen
    simp only [Option.some.injEq] at hs
    subst hs
    rcases DataW.trod_slice hu h with ⟨rfl, _⟩ | ⟨a, len, cap, elems, rest, n, rfl, rfl, _, _, hlc, hcm, hel, hrd, _, _⟩
    ·refine ⟨[.ar false 0 (P.cellsOf e) []], ?_, ?_⟩
     ·simp only [y0p, inSh]
      exact ⟨_, [], rfl, ⟨[], rfl, by simp, by simp⟩, rfl⟩
     ·simp only [z0b, repC]
      exact ⟨_, [], fz, fz, rfl, (z0j _).symm, ⟨rfl, none, 0, rfl, by simp, by simp [maxLen], fun h => absurd rfl h⟩, rfl, rfl⟩
    ·-- the elements
     have hrow : ∀ i, i < len → ∃ csi row, w.cells? 0 (a.add (i * P.cellsOf e)) (P.cellsOf e) = some csi ∧ y0p r' row ∧ z0b w (old w) row csi fz := by
      intro i hi
      have h1 := hrd i hi
      rw [List.getElem?_eq_getElem (by omega)] at h1
      cases hc : w.cells? 0 (a.add (i * P.cellsOf e)) (P.cellsOf e) with
      | none => rw [hc] at h1; simp at h1
      | some csi =>
        rw [hc] at h1
        obtain ⟨row, h2, h3⟩ := f09 (f := f) h1 he
        exact ⟨csi, row, rfl, h2, h3⟩
     by_cases hz : len = 0
     ·subst hz
      refine ⟨[.ar false 0 (P.cellsOf e) []], ?_, ?_⟩
      ·simp only [y0p, inSh]
       exact ⟨_, [], rfl, ⟨[], rfl, by simp, by simp⟩, rfl⟩
      ·simp only [z0b, repC]
       exact ⟨_, [], fz, fz, rfl, (z0j _).symm, ⟨rfl, some a, cap, rfl, by simp, hcm, fun h => absurd rfl h⟩, rfl, rfl⟩
     ·have hl0 : 0 < len := by omega
      have he0 : 0 < P.cellsOf e := by omega
      obtain ⟨cs0, _, hc0, _, _⟩ := hrow 0 hl0
      obtain ⟨hl0', hg0⟩ := o0r hc0
      have hcell0 := hg0 0 he0
      rw [List.getElem?_eq_getElem (by omega)] at hcell0
      have hsp : a.spot = none := by
       have := w18 hcell0
       simpa [Addr.add] using this
      obtain ⟨b, off, sp⟩ := a
      simp only at hsp
      subst hsp
      have hcellAt : ∀ i k, (Addr.add ⟨b, off, none⟩ (i * P.cellsOf e)).add k = ⟨b, off + (i * P.cellsOf e + k), none⟩ := fun i k => by
       rw [Addr.add_lit, Addr.add_lit, Nat.add_assoc]
      have hblk : ∃ cur ty fr, w.heap[b]? = some (.cells cur ty fr) := by
       have : w.cell? ⟨b, off + (0 * P.cellsOf e + 0), none⟩ = some cs0[0] := by rw [← hcellAt]; exact hcell0
       unfold World.cell? at this
       split at this
       ·exact ⟨_, _, _, by assumption⟩
       ·cases this
      obtain ⟨cur, ty, fr, hb⟩ := hblk
      have hcur : ∀ i k, i < len → k < P.cellsOf e → ∃ v, cur[off + (i * P.cellsOf e + k)]? = some v := by
       intro i k hi hk
       obtain ⟨csi, _, hci, _, _⟩ := hrow i hi
       obtain ⟨hli, hgi⟩ := o0r hci
       have := hgi k hk
       rw [hcellAt, y09 hb, List.getElem?_eq_getElem (by omega)] at this
       exact ⟨_, this⟩
      have hsize : off + len * P.cellsOf e ≤ cur.size := by
       obtain ⟨v, hv⟩ := hcur (len - 1) (P.cellsOf e - 1) (by omega) (by omega)
       have h1 := (Array.getElem?_eq_some_iff.1 hv).1
       have h2 : len * P.cellsOf e = (len - 1) * P.cellsOf e + P.cellsOf e := by
        rw [← Nat.succ_mul]; congr 1; omega
       omega
      have hvl : ((cur.toList.drop off).take (len * P.cellsOf e)).length = len * P.cellsOf e := by
       rw [List.length_take, List.length_drop, Array.length_toList]; omega
      obtain ⟨xs, hx1, hx2, hx3⟩ := x12 (w := w) hlen len _ hvl fun i hi => by
       obtain ⟨csi, row, hci, h2, h3⟩ := hrow i hi
       refine ⟨row, h2, ?_⟩
       obtain ⟨hli, hgi⟩ := o0r hci
       have : (((cur.toList.drop off).take (len * P.cellsOf e)).drop (i * P.cellsOf e)).take (P.cellsOf e) = csi := by
        apply List.ext_getElem?
        intro k
        have hmul : (i + 1) * P.cellsOf e ≤ len * P.cellsOf e := Nat.mul_le_mul_right _ hi
        rw [Nat.add_mul, Nat.one_mul] at hmul
        by_cases hk : k < P.cellsOf e
        ·rw [List.getElem?_take_of_lt hk, List.getElem?_drop, List.getElem?_take_of_lt (by omega), List.getElem?_drop]
         rw [← hgi k hk, hcellAt, y09 hb]
         simp
        ·rw [List.getElem?_eq_none (by rw [List.length_take]; omega), List.getElem?_eq_none (by omega)]
       rw [this]; exact h3
      refine ⟨[.ar false 0 (P.cellsOf e) xs], ?_, ?_⟩
      ·simp only [y0p, inSh]
       refine ⟨_, [], rfl, ⟨xs, rfl, by simp only [maxLen] at hcm; omega, hx2⟩, rfl⟩
      ·simp only [z0b, repC]
       refine ⟨_, [], fz, fz, rfl, (z0j _).symm, ⟨rfl, some ⟨b, off, none⟩, cap, by rw [hx1], by omega, hcm, fun _ => ⟨b, off, cur, ty, fr, rfl, (Array.getElem?_eq_some_iff.1 hb).1, hb, by rw [hx1]; exact hsize, by rw [hx1]; exact hx3⟩⟩, rfl, rfl⟩
   ·rename_i fs hu
    cases hgo : shGo P (shT P f) 0 fs.toList with
    | none => rw [hgo] at hs; simp at hs
    | some r0 =>
      rw [hgo] at hs
      simp only [Option.bind_some] at hs
      split at hs
      case isFalse => cases hs
      rename_i hlen
      simp only [Option.some.injEq] at hs
      subst hs
      obtain ⟨xs, n, rfl, _, hcl, hxl, hfl⟩ := DataW.trod_struct hu h
      have key : ∀ (l : List Field) (o : Nat) (r1 : List Sh), shGo P (shT P f) o l = some r1 → (∀ fl ∈ l, ∃ y, DataW.trod enc P w 0 (fun _ => true) true n fl.type ((cs.drop fl.offset).take (P.cellsOf fl.type)) = some y) →
       ∃ row, y0p r1 row ∧ z0b w (old w) row ((cs.drop o).take r1.length) fz := by
       intro l
       induction l with
       | nil =>
         intro o r1 hg _
         simp only [shGo, Option.some.injEq] at hg
         subst hg
         exact ⟨[], by simp [y0p], by simp [z0b]⟩
       | cons fl l ih =>
         intro o r1 hg hall
         simp only [shGo] at hg
         split at hg
         case isFalse => cases hg
         rename_i ho
         subst ho
         split at hg
         case h_2 => cases hg
         rename_i ra hra
         split at hg
         case isFalse => cases hg
         rename_i hral
         split at hg
         case h_2 => cases hg
         rename_i rb hrb
         simp only [Option.some.injEq] at hg
         subst hg
         obtain ⟨y, hy⟩ := hall fl (List.mem_cons_self ..)
         obtain ⟨row1, h1, h2⟩ := f09 (f := f) hy hra
         obtain ⟨row2, h3, h4⟩ := ih _ _ hrb fun fl' hm => hall fl' (List.mem_cons_of_mem _ hm)
         refine ⟨row1 ++ row2, p0b h1 h3, ?_⟩
         have : (cs.drop fl.offset).take (ra ++ rb).length = (cs.drop fl.offset).take (P.cellsOf fl.type) ++ (cs.drop (fl.offset + P.cellsOf fl.type)).take rb.length := by
          rw [List.length_append, hral, List.take_add, List.drop_drop]
         rw [this]
         have happ : ∀ (r1 r2 : List C) (v1 v2 : List Value), z0b w (old w) r1 v1 fz → z0b w (old w) r2 v2 fz → z0b w (old w) (r1 ++ r2) (v1 ++ v2) fz := by
          intro r1
          induction r1 with
          | nil => intro r2 v1 v2 h1 h2; simp only [z0b] at h1; rw [h1.1]; exact h2
          | cons c r1 ih =>
            intro r2 v1 v2 h1 h2
            simp only [z0b] at h1
            obtain ⟨v, vs', F1, F2, rfl, hF, h3, h4⟩ := h1
            have e1 : F1 = fz := by funext x; have := congrFun hF x; simp only [add, fz] at *; omega
            have e2 : F2 = fz := by funext x; have := congrFun hF x; simp only [add, fz] at *; omega
            subst e1; subst e2
            simp only [List.cons_append, z0b]
            exact ⟨v, _, fz, fz, rfl, (z0j _).symm, h3, ih _ _ _ h4 h2⟩
         exact happ _ _ _ _ h2 h4
      obtain ⟨row, h1, h2⟩ := key fs.toList 0 r0 hgo fun fl hm => by
       obtain ⟨i, hi, hfi⟩ := List.getElem_of_mem hm
       have := hfl i fl (by simp only [Array.length_toList] at hi; rw [Array.getElem?_eq_getElem hi]; simpa using hfi)
       simp only [Array.length_toList] at hi
       rw [List.getElem?_eq_getElem (by omega)] at this
       exact ⟨_, this⟩
      refine ⟨row, h1, ?_⟩
      rw [List.drop_zero, List.take_of_length_le (by omega)] at h2
      exact h2
   ·cases hs
theorem i15 {r : Reach} {b0 f : Nat} {t : TypeId} {fs : Array Field} {v : Value} {d : DataW H} {ps : List MemPlace} {sh : List Sh} (ht : P.underlying t = some (.struct fs)) (hs : shT P f t = some sh) (hval : Value.okWide P w r b0 t v)
 (hd : DataW.Trod enc P w 0 (fun _ => true) true t v d ps) : ∃ row, y0p sh row ∧ repA w (old w) lc (.agg row) v fz := by
 obtain ⟨cs, rfl, _⟩ := okWide_struct ht hval
 obtain ⟨fuel, hf⟩ := hd
 obtain ⟨row, h1, h2⟩ := f09 hf hs
 exact ⟨row, h1, cs.toList, by simp, s0o h2⟩
theorem w1v {α : Type} {r : List Sh} {s : α → List C} {l : α → Prop} (h : ∀ x, y0p r x → ∃ a, x = s a ∧ l a) : ∀ xs : List (List C), (∀ x ∈ xs, y0p r x) → ∃ as : List α, xs = as.map s ∧ ∀ a ∈ as, l a
 | [], _ => ⟨[], rfl, by simp⟩
 | x :: xs, hx => by
   obtain ⟨a, rfl, ha⟩ := h x (hx x (List.mem_cons_self ..))
   obtain ⟨as, rfl, has⟩ := w1v h xs fun y hy => hx y (List.mem_cons_of_mem _ hy)
   refine ⟨a :: as, rfl, fun b hb => ?_⟩
   rcases List.mem_cons.1 hb with rfl | hb
   ·exact ha
   ·exact has b hb
theorem t0z {α : Type} {r : List Sh} {s : α → List C} {l : α → Prop} {e : Nat} (h : ∀ x, y0p r x → ∃ a, x = s a ∧ l a) (c : C) (hc : inSh (.l e r) c) : ∃ as : List α, c = .ar false 0 e (as.map s) ∧ lL l as := by
 simp only [inSh] at hc
 obtain ⟨xs, rfl, hl, hx⟩ := hc
 obtain ⟨as, rfl, ha⟩ := w1v h xs hx
 exact ⟨as, rfl, by simpa using hl, fun i hi => ha _ (List.getElem_mem hi)⟩
theorem d0f (x : List C) (h : y0p [.i] x) : ∃ a : Int, x = rI a ∧ l0 a := by
 simp only [y0p, inSh] at h
 obtain ⟨c, cs', rfl, ⟨n, rfl, hn⟩, rfl⟩ := h
 exact ⟨n, rfl, hn⟩
theorem t1r {f : FuncId} {args : List A} {c : C} (h : z06 P f args (.one c)) (hr : ∀ w N g F, repC w N c g F → g = .bool true) (W : World) (gs : List Value) (hn : ∀ a ∈ args, a.ref inR = false) (ha : x0e W (old W) (fun _ => none) args gs fz) (hc : c.plain = true) :
 Calls P f gs.toArray W fun e W' => e = .returned (.bool true) ∧ Below W.heap.size W W' := by
 refine (h W (old W) (fun _ => none) gs fz fz fz ⟨fun _ => Nat.zero_le _, fun b hb => absurd hb (by simp [fz]), fun b hb => ⟨rfl, hb⟩⟩ (fun _ => Nat.le_refl _) hn ha rfl).mono ?_
 rintro e w' ⟨g, r, H', N', lc', F', Fr', Fo', rfl, ⟨rfl, rfl⟩, hB, hr', _, _, _, hF⟩
 exact ⟨by rw [hr _ _ _ _ (v05 hc hr')], hF.os, hF.tape, hF.output, hF.size, fun k hk => hF.keep k hk rfl⟩
end
end Go.Am
