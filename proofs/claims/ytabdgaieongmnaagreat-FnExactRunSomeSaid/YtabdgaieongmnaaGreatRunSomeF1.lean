/- FRAMEWORK, text 1: what a tree says of memory, and how a tree is kept, frozen, looked up and laid. Proved once, for every program; no condition. -/
import Derived.WalkKit
import Derived.KernelRfl
set_option linter.unusedVariables false
set_option linter.unusedSimpArgs false
namespace Go.Am
abbrev Fp := Nat → Nat
def fz : Fp := fun _ => 0
def one (b : Nat) : Fp := fun x => if x = b then 1 else 0
def add (F G : Fp) : Fp := fun x => F x + G x
inductive C where
  | int (k : IntKind) (n : Int)
  | bool (b : Bool)
  | str (s : ByteArray)
  | ar (own : Bool) (t e : Nat) (xs : List (List C))
  | vw (t e id : Nat) (st : List (Nat × Nat × Nat)) (lo n : Nat)
  | pt (e id : Nat) (st : List (Nat × Nat × Nat)) (i f : Nat)
  | ps (cs : List C)
  | np
  | fn (f : Nat) (cap : List C)
  | dead
  | op (t e : Nat) (cs : List C)
  deriving Inhabited
inductive A where
  | one (c : C)
  | agg (cs : List C)
  | tup (xs : List (Bool × List C))
  deriving Inhabited
structure Obj where
  t : Nat
  e : Nat
  xs : List (List C)
  deriving Inhabited
structure St where
  tm : List (Nat × A)
  ob : List (Nat × Obj)
  deriving Inhabited
abbrev Loc := Nat → Option (Nat × Nat)
section
variable {α : Type}
def look : List (Nat × α) → Nat → Option α
  | [], _ => none
  | (k, a) :: r, d => if k = d then some a else look r d
def del : List (Nat × α) → Nat → List (Nat × α)
  | [], _ => []
  | (k, a) :: r, d => if k = d then del r d else (k, a) :: del r d
def put (l : List (Nat × α)) (d : Nat) (a : α) : List (Nat × α) := (d, a) :: del l d
theorem del_del (l : List (Nat × α)) (d : Nat) : del (del l d) d = del l d := by
  induction l with
  | nil => rfl
  | cons x r ih =>
    obtain ⟨k, a⟩ := x
    simp only [del]
    split
    · exact ih
    · rename_i h
      simp only [del, if_neg h, ih]
end
mutual
def repC (w : World) (N : Nat → Prop) : C → Value → Fp → Prop
  | .int k n, g, F => g = .int k n ∧ F = fz
  | .bool b, g, F => g = .bool b ∧ F = fz
  | .str s, g, F => g = .string s ∧ F = fz
  | .np, g, F => g = .pointer none ∧ F = fz
  | .ar true t e xs, g, F =>
      (xs = [] ∧ ∃ a, g = .slice a 0 0) ∨
      ∃ b cap cur F', g = .slice (some ⟨b, 0, none⟩) xs.length cap ∧ w.heap[b]? = some (.cells cur t (0, 0)) ∧ xs.length ≤ cap ∧ cap ≤ maxLen ∧
        cur.size = cap * e ∧ repRows w N e xs (cur.toList.take (xs.length * e)) F' ∧ F = add (Am.one b) F'
  | .ar false _ e xs, g, F => F = fz ∧
      ∃ a cap, g = .slice a xs.length cap ∧ xs.length ≤ cap ∧ cap ≤ maxLen ∧
        (xs ≠ [] → ∃ b off cur ty fr, a = some ⟨b, off, none⟩ ∧ N b ∧ w.heap[b]? = some (.cells cur ty fr) ∧ off + xs.length * e ≤ cur.size ∧
          repRows w N e xs ((cur.toList.drop off).take (xs.length * e)) fz)
  | .vw .., _, _ => False
  | .pt .., _, _ => False
  | .ps _, _, _ => False
  | .fn f cap, g, F => F = fz ∧ ∃ vs : List Value, g = .func (.func f) #[] vs.toArray ∧ repRow w N cap vs fz
  | .dead, g, F => F = fz ∧ g.oneCell' = true
  | .op t e cs, g, F => ∃ b cur F', g = .pointer (some ⟨b, 0, none⟩) ∧ w.heap[b]? = some (.cells cur t (0, 0)) ∧ cs.length = e ∧ cur.size = e ∧ repRow w N cs (cur.toList.take e) F' ∧ F = add (Am.one b) F'
def repRow (w : World) (N : Nat → Prop) : List C → List Value → Fp → Prop
  | [], vs, F => vs = [] ∧ F = fz
  | c :: cs, vs, F => ∃ v vs' F1 F2, vs = v :: vs' ∧ F = add F1 F2 ∧ repC w N c v F1 ∧ repRow w N cs vs' F2
def repRows (w : World) (N : Nat → Prop) (e : Nat) : List (List C) → List Value → Fp → Prop
  | [], vs, F => vs = [] ∧ F = fz
  | r :: rs, vs, F => ∃ v1 v2 F1 F2, vs = v1 ++ v2 ∧ r.length = e ∧ F = add F1 F2 ∧ repRow w N r v1 F1 ∧ repRows w N e rs v2 F2
end
end Go.Am
namespace Go.Am
theorem add_fz (F : Fp) : add F fz = F := by funext x; simp [add, fz]
theorem fz_add (F : Fp) : add fz F = F := by funext x; simp [add, fz]
theorem add_assoc (F G H : Fp) : add (add F G) H = add F (add G H) := by funext x; simp [add, Nat.add_assoc]
theorem add_comm (F G : Fp) : add F G = add G F := by funext x; simp [add, Nat.add_comm]
theorem add_left_comm (F G H : Fp) : add F (add G H) = add G (add F H) := by funext x; simp [add, Nat.add_left_comm]
section
variable {w w' : World} {N N' : Nat → Prop}
mutual
theorem repC_keep : ∀ (c : C) (g : Value) (F : Fp), (∀ b, 1 ≤ F b ∨ N b → w'.heap[b]? = w.heap[b]?) → (∀ b, N b → N' b) → repC w N c g F → repC w' N' c g F
  | .int .., _, _, _, _, h => h
  | .bool .., _, _, _, _, h => h
  | .str .., _, _, _, _, h => h
  | .np, _, _, _, _, h => h
  | .vw .., _, _, _, _, h => h
  | .pt .., _, _, _, _, h => h
  | .ps .., _, _, _, _, h => h
  | .dead, _, _, _, _, h => h
  | .fn f cap, g, F, hk, hN, h => by
    simp only [repC] at h ⊢
    obtain ⟨rfl, vs, hg, hr⟩ := h
    exact ⟨rfl, vs, hg, repRow_keep cap vs fz hk hN hr⟩
  | .op t e cs, g, F, hk, hN, h => by
    simp only [repC] at h ⊢
    obtain ⟨b, cur, F', hg, hb, hl, hs, hr, rfl⟩ := h
    exact ⟨b, cur, F', hg, (hk b (.inl (by simp [add, one]))).trans hb, hl, hs, repRow_keep cs _ F' (fun x hx => hk x (hx.imp_left fun h => by simp only [add]; omega)) hN hr, rfl⟩
  | .ar true t e xs, g, F, hk, hN, h => by
    simp only [repC] at h ⊢
    rcases h with h | ⟨b, cap, cur, F', hg, hb, hl, hc, hs, hr, hF⟩
    · exact .inl h
    · subst hF
      refine .inr ⟨b, cap, cur, F', hg, ?_, hl, hc, hs, repRows_keep e xs _ F' (fun x hx => hk x ?_) hN hr, rfl⟩
      · rw [hk b (.inl (by simp [add, one]))]; exact hb
      · rcases hx with hx | hx
        · exact .inl (by simp only [add]; omega)
        · exact .inr hx
  | .ar false t e xs, g, F, hk, hN, h => by
    simp only [repC] at h ⊢
    obtain ⟨rfl, a, cap, hg, hl, hc, hx⟩ := h
    refine ⟨rfl, a, cap, hg, hl, hc, fun hne => ?_⟩
    obtain ⟨b, off, cur, ty, fr, ha, hb, hh, ho, hr⟩ := hx hne
    exact ⟨b, off, cur, ty, fr, ha, hN b hb, (hk b (.inr hb)).trans hh, ho, repRows_keep e xs _ fz hk hN hr⟩
theorem repRow_keep : ∀ (cs : List C) (vs : List Value) (F : Fp), (∀ b, 1 ≤ F b ∨ N b → w'.heap[b]? = w.heap[b]?) → (∀ b, N b → N' b) → repRow w N cs vs F → repRow w' N' cs vs F
  | [], _, _, _, _, h => h
  | c :: cs, vs, F, hk, hN, h => by
    simp only [repRow] at h ⊢
    obtain ⟨v, vs', F1, F2, hv, rfl, h1, h2⟩ := h
    exact ⟨v, vs', F1, F2, hv, rfl, repC_keep c v F1 (fun b hb => hk b (hb.imp_left fun h => by simp only [add]; omega)) hN h1,
      repRow_keep cs vs' F2 (fun b hb => hk b (hb.imp_left fun h => by simp only [add]; omega)) hN h2⟩
theorem repRows_keep (e : Nat) : ∀ (xs : List (List C)) (vs : List Value) (F : Fp), (∀ b, 1 ≤ F b ∨ N b → w'.heap[b]? = w.heap[b]?) → (∀ b, N b → N' b) → repRows w N e xs vs F → repRows w' N' e xs vs F
  | [], _, _, _, _, h => h
  | r :: rs, vs, F, hk, hN, h => by
    simp only [repRows] at h ⊢
    obtain ⟨v1, v2, F1, F2, hv, hl, rfl, h1, h2⟩ := h
    exact ⟨v1, v2, F1, F2, hv, hl, rfl, repRow_keep r v1 F1 (fun b hb => hk b (hb.imp_left fun h => by simp only [add]; omega)) hN h1,
      repRows_keep e rs v2 F2 (fun b hb => hk b (hb.imp_left fun h => by simp only [add]; omega)) hN h2⟩
end
end
mutual
def shr : C → C
  | .ar _ t e xs => .ar false 0 e (shrRows xs)
  | .op .. => .dead
  | c => c
def shrRow : List C → List C
  | [] => []
  | c :: cs => shr c :: shrRow cs
def shrRows : List (List C) → List (List C)
  | [] => []
  | r :: rs => shrRow r :: shrRows rs
end
theorem shrRow_map (cs : List C) : shrRow cs = cs.map shr := by
  induction cs with
  | nil => rfl
  | cons c cs ih => simp [shrRow, ih]
theorem shrRows_map (xs : List (List C)) : shrRows xs = xs.map shrRow := by
  induction xs with
  | nil => rfl
  | cons c cs ih => simp [shrRows, ih]
section
variable {w : World} {N N' : Nat → Prop}
mutual
theorem repC_shr : ∀ (c : C) (g : Value) (F : Fp), (∀ b, 1 ≤ F b → N' b) → (∀ b, N b → N' b) → repC w N c g F → repC w N' (shr c) g fz
  | .int .., _, _, _, _, h => by simp only [repC, shr] at h ⊢; exact ⟨h.1, by trivial⟩
  | .bool .., _, _, _, _, h => by simp only [repC, shr] at h ⊢; exact ⟨h.1, by trivial⟩
  | .str .., _, _, _, _, h => by simp only [repC, shr] at h ⊢; exact ⟨h.1, by trivial⟩
  | .np, _, _, _, _, h => by simp only [repC, shr] at h ⊢; exact ⟨h.1, by trivial⟩
  | .vw .., _, _, _, _, h => h.elim
  | .pt .., _, _, _, _, h => h.elim
  | .ps .., _, _, _, _, h => h.elim
  | .dead, _, _, _, _, h => by simp only [repC, shr] at h ⊢; exact ⟨by trivial, h.2⟩
  | .op t e cs, _, _, _, _, h => by
    simp only [repC, shr] at h ⊢
    obtain ⟨b, cur, F', rfl, _⟩ := h
    exact ⟨by trivial, rfl⟩
  | .fn f cap, g, F, hF, hN, h => by
    simp only [repC, shr] at h ⊢
    obtain ⟨rfl, vs, hg, hr⟩ := h
    exact ⟨by trivial, vs, hg, repRow_keep cap vs fz (fun _ _ => rfl) hN hr⟩
  | .ar true t e xs, g, F, hF, hN, h => by
    simp only [repC, shr] at h ⊢
    have hlen : (shrRows xs).length = xs.length := by simp [shrRows_map]
    rw [hlen]
    rcases h with ⟨rfl, a0, rfl⟩ | ⟨b, cap, cur, F', hg, hb, hl, hc, hs, hr, rfl⟩
    · exact ⟨by trivial, a0, 0, rfl, by simp, by simp [maxLen], fun h => by simp [shrRows] at h⟩
    · refine ⟨by trivial, some ⟨b, 0, none⟩, cap, hg, hl, hc, fun _ => ⟨b, 0, cur, t, (0, 0), rfl, hF b (by simp [add, one]), hb, ?_, ?_⟩⟩
      · rw [hs, Nat.zero_add]; exact Nat.mul_le_mul_right _ hl
      · rw [List.drop_zero]
        exact repRows_shr e xs _ F' (fun x hx => hF x (by simp only [add]; omega)) hN hr
  | .ar false t e xs, g, F, hF, hN, h => by
    simp only [repC, shr] at h ⊢
    have hlen : (shrRows xs).length = xs.length := by simp [shrRows_map]
    rw [hlen]
    obtain ⟨rfl, a, cap, hg, hl, hc, hx⟩ := h
    refine ⟨by trivial, a, cap, hg, hl, hc, fun hne => ?_⟩
    have hne' : xs ≠ [] := fun h => hne (by simp [h, shrRows])
    obtain ⟨b, off, cur, ty, fr, ha, hb, hh, ho, hr⟩ := hx hne'
    exact ⟨b, off, cur, ty, fr, ha, hN b hb, hh, ho, repRows_shr e xs _ fz (fun b hb => by simp [fz] at hb) hN hr⟩
theorem repRow_shr : ∀ (cs : List C) (vs : List Value) (F : Fp), (∀ b, 1 ≤ F b → N' b) → (∀ b, N b → N' b) → repRow w N cs vs F → repRow w N' (shrRow cs) vs fz
  | [], _, _, _, _, h => by simp only [repRow, shrRow] at h ⊢; exact ⟨h.1, by trivial⟩
  | c :: cs, vs, F, hF, hN, h => by
    simp only [repRow, shrRow] at h ⊢
    obtain ⟨v, vs', F1, F2, hv, rfl, h1, h2⟩ := h
    exact ⟨v, vs', fz, fz, hv, (add_fz _).symm, repC_shr c v F1 (fun b hb => hF b (by simp only [add]; omega)) hN h1,
      repRow_shr cs vs' F2 (fun b hb => hF b (by simp only [add]; omega)) hN h2⟩
theorem repRows_shr (e : Nat) : ∀ (xs : List (List C)) (vs : List Value) (F : Fp), (∀ b, 1 ≤ F b → N' b) → (∀ b, N b → N' b) → repRows w N e xs vs F → repRows w N' e (shrRows xs) vs fz
  | [], _, _, _, _, h => by simp only [repRows, shrRows] at h ⊢; exact ⟨h.1, by trivial⟩
  | r :: rs, vs, F, hF, hN, h => by
    simp only [repRows, shrRows] at h ⊢
    obtain ⟨v1, v2, F1, F2, hv, hl, rfl, h1, h2⟩ := h
    exact ⟨v1, v2, fz, fz, hv, by rw [shrRow_map, List.length_map]; exact hl, (add_fz _).symm, repRow_shr r v1 F1 (fun b hb => hF b (by simp only [add]; omega)) hN h1,
      repRows_shr e rs v2 F2 (fun b hb => hF b (by simp only [add]; omega)) hN h2⟩
end
end
end Go.Am
namespace Go.Am
def resF (w : World) : Option (Nat × Nat) → List (Nat × Nat × Nat) → Option (Nat × Nat)
  | l, [] => l
  | some (b, _), (e, i, f) :: r =>
    match w.cell? ⟨b, i * e + f, none⟩ with
    | some (.slice (some ⟨b2, 0, none⟩) _ c2) => resF w (if c2 = 0 then none else some (b2, c2)) r
    | some (.pointer (some ⟨b2, 0, none⟩)) => resF w (some (b2, 1)) r
    | _ => none
  | none, _ :: _ => none
mutual
def repT (w : World) (N : Nat → Prop) (lc : Loc) : C → Value → Fp → Prop
  | .vw _ e id st lo n, g, F => F = fz ∧
      ((lo = 0 ∧ n = 0 ∧ ∃ a, g = .slice a 0 0) ∨
       ∃ b cap a, resF w (lc id) st = some (b, cap) ∧ g = .slice (some a) n (cap - lo) ∧ lo + n ≤ cap ∧ cap ≤ maxLen ∧ ((lo = 0 ∨ lo < cap) → a = ⟨b, lo * e, none⟩))
  | .pt e id st i f, g, F => F = fz ∧ ∃ b cap, resF w (lc id) st = some (b, cap) ∧ g = .pointer (some ⟨b, i * e + f, none⟩)
  | .ps cs, g, F => F = fz ∧ ∃ b off cur ty fr, g = .pointer (some ⟨b, off, none⟩) ∧ N b ∧ w.heap[b]? = some (.cells cur ty fr) ∧ off + cs.length ≤ cur.size ∧
      repRowT w N lc cs ((cur.toList.drop off).take cs.length) fz
  | .int k n, g, F => repC w N (.int k n) g F
  | .bool b, g, F => repC w N (.bool b) g F
  | .str s, g, F => repC w N (.str s) g F
  | .ar o t e xs, g, F => repC w N (.ar o t e xs) g F
  | .np, g, F => repC w N .np g F
  | .fn f cap, g, F => F = fz ∧ ∃ vs : List Value, g = .func (.func f) #[] vs.toArray ∧ repRowT w N lc cap vs fz
  | .dead, _, F => F = fz
  | .op t e cs, g, F => repC w N (.op t e cs) g F
def repRowT (w : World) (N : Nat → Prop) (lc : Loc) : List C → List Value → Fp → Prop
  | [], vs, F => vs = [] ∧ F = fz
  | c :: cs, vs, F => ∃ v vs' F1 F2, vs = v :: vs' ∧ F = add F1 F2 ∧ repT w N lc c v F1 ∧ repRowT w N lc cs vs' F2
end
def repTup (w : World) (N : Nat → Prop) (lc : Loc) : List (Bool × List C) → List Value → Fp → Prop
  | [], gs, F => gs = [] ∧ F = fz
  | (ag, cs) :: r, gs, F => ∃ g gs' F1 F2, gs = g :: gs' ∧ F = add F1 F2 ∧
      (if ag then ∃ vs : List Value, g = .agg vs.toArray ∧ repRowT w N lc cs vs F1 else ∃ c, cs = [c] ∧ repT w N lc c g F1) ∧ repTup w N lc r gs' F2
def repA (w : World) (N : Nat → Prop) (lc : Loc) : A → Value → Fp → Prop
  | .one c, g, F => repT w N lc c g F
  | .agg cs, g, F => ∃ vs : List Value, g = .agg vs.toArray ∧ repRowT w N lc cs vs F
  | .tup xs, g, F => ∃ gs : List Value, g = .tuple gs.toArray ∧ repTup w N lc xs gs F
def repTm (w : World) (N : Nat → Prop) (lc : Loc) (tmps : Array Value) : List (Nat × A) → Fp → Prop
  | [], F => F = fz
  | (k, a) :: r, F => ∃ F1 F2, F = add F1 F2 ∧ repA w N lc a (tmps.getD k undef) F1 ∧ repTm w N lc tmps r F2
def tyOf (t : Nat) : Nat := if t < 1000000000 then t else t - 1000000000
def capOk (t cap : Nat) : Prop := cap ≤ maxLen ∧ (1000000000 ≤ t → cap = 1)
theorem tyOf_lt {t : Nat} (h : t < 1000000000) : tyOf t = t := if_pos h
theorem tyOf_add (t : Nat) : tyOf (t + 1000000000) = t := by unfold tyOf; rw [if_neg (by omega)]; omega
theorem capOk_lt {t cap : Nat} (h : t < 1000000000) (hc : cap ≤ maxLen) : capOk t cap := ⟨hc, fun h2 => by omega⟩
def repO (w : World) (N : Nat → Prop) (l : Option (Nat × Nat)) (t e : Nat) (xs : List (List C)) (F : Fp) : Prop :=
  (l = none ∧ xs = []) ∨
  ∃ b cap cur F', l = some (b, cap) ∧ w.heap[b]? = some (.cells cur (tyOf t) (0, 0)) ∧ xs.length ≤ cap ∧ capOk t cap ∧
    cur.size = cap * e ∧ repRows w N e xs (cur.toList.take (xs.length * e)) F' ∧ F = add (Am.one b) F'
def repOb (w : World) (N : Nat → Prop) (lc : Loc) : List (Nat × Obj) → Fp → Prop
  | [], F => F = fz
  | (id, o) :: r, F => ∃ F1 F2, F = add F1 F2 ∧ repO w N (lc id) o.t o.e o.xs F1 ∧ repOb w N lc r F2
theorem resF_none {w : World} : ∀ r : List (Nat × Nat × Nat), resF w none r = none
  | [] => rfl
  | _ :: _ => rfl
theorem resF_zero {w : World} {b cap e i f : Nat} {r : List (Nat × Nat × Nat)} {a : Option Addr} (hc : w.cell? ⟨b, i * e + f, none⟩ = some (.slice a 0 0)) : resF w (some (b, cap)) ((e, i, f) :: r) = none := by
  simp only [resF, hc]
  split
  · rename_i h
    injection h with h
    injection h with _ _ h
    rw [← h]
    simp only [if_true]
    exact resF_none r
  · rename_i h
    cases h
  · rfl
theorem repC_arT {w : World} {N : Nat → Prop} {t e : Nat} {xs : List (List C)} {g : Value} {F : Fp} (h : repC w N (.ar true t e xs) g F) : (xs = [] ∧ ∃ a, g = .slice a 0 0) ∨
    ∃ b cap cur F', 0 < cap ∧ g = .slice (some ⟨b, 0, none⟩) xs.length cap ∧ w.heap[b]? = some (.cells cur t (0, 0)) ∧ xs.length ≤ cap ∧ cap ≤ maxLen ∧
        cur.size = cap * e ∧ repRows w N e xs (cur.toList.take (xs.length * e)) F' ∧ F = add (Am.one b) F' := by
  simp only [repC] at h
  rcases h with h | ⟨b, cap, cur, F', hg, hb, hl, r⟩
  · exact .inl h
  · by_cases hz : cap = 0
    · have : xs = [] := List.eq_nil_of_length_eq_zero (by omega)
      subst this
      subst hz
      exact .inl ⟨rfl, _, hg⟩
    · exact .inr ⟨b, cap, cur, F', by omega, hg, hb, hl, r⟩
structure Base (w : World) (N : Nat → Prop) (F : Fp) : Prop where
  one : ∀ b, F b ≤ 1
  lt : ∀ b, 1 ≤ F b → b < w.heap.size
  nb : ∀ b, N b → F b = 0 ∧ b < w.heap.size
def Hold (w : World) (N : Nat → Prop) (lc : Loc) (σ : St) (tmps : Array Value) (F G : Fp) : Prop :=
  ∃ Ft Fo, (∀ b, G b + Ft b + Fo b ≤ F b) ∧ repTm w N lc tmps σ.tm Ft ∧ repOb w N lc σ.ob Fo
structure Fr (w : World) (F : Fp) (N : Nat → Prop) (lc : Loc) (w' : World) (F' : Fp) (N' : Nat → Prop) (lc' : Loc) : Prop where
  os : w'.os = w.os
  tape : w'.tape = w.tape
  output : w'.output = w.output
  size : w.heap.size ≤ w'.heap.size
  keep : ∀ b, b < w.heap.size → F b = 0 → w'.heap[b]? = w.heap[b]?
  fp : ∀ b, 1 ≤ F' b → 1 ≤ F b ∨ w.heap.size ≤ b
  nn : ∀ b, N b → N' b
  nr : ∀ b, N' b → N b ∨ 1 ≤ F b ∨ w.heap.size ≤ b
  lcs : ∀ id, 1000 ≤ id → lc' id = lc id
theorem Fr.refl (w : World) (F : Fp) (N : Nat → Prop) (lc : Loc) : Fr w F N lc w F N lc :=
  ⟨rfl, rfl, rfl, Nat.le_refl _, fun _ _ _ => rfl, fun _ h => .inl h, fun _ h => h, fun _ h => .inl h, fun _ _ => rfl⟩
theorem Fr.trans {w w1 w2 : World} {F F1 F2 : Fp} {N N1 N2 : Nat → Prop} {lc lc1 lc2 : Loc} (h : Fr w F N lc w1 F1 N1 lc1) (k : Fr w1 F1 N1 lc1 w2 F2 N2 lc2) :
    Fr w F N lc w2 F2 N2 lc2 where
  os := k.os.trans h.os
  tape := k.tape.trans h.tape
  output := k.output.trans h.output
  size := Nat.le_trans h.size k.size
  keep := fun b hb h0 => by
    have h1 : F1 b = 0 := by
      rcases Nat.eq_zero_or_pos (F1 b) with h1 | h1
      · exact h1
      · rcases h.fp b h1 with h2 | h2 <;> omega
    exact (k.keep b (Nat.lt_of_lt_of_le hb h.size) h1).trans (h.keep b hb h0)
  fp := fun b hb => by
    rcases k.fp b hb with h1 | h1
    · exact h.fp b h1
    · exact .inr (Nat.le_trans h.size h1)
  nn := fun b hb => k.nn b (h.nn b hb)
  nr := fun b hb => by
    rcases k.nr b hb with h1 | h1 | h1
    · exact h.nr b h1
    · exact .inr (h.fp b h1)
    · exact .inr (.inr (Nat.le_trans h.size h1))
  lcs := fun id hid => (k.lcs id hid).trans (h.lcs id hid)
theorem cell?_some_lt {w : World} {a : Addr} {v : Value} (h : w.cell? a = some v) : a.block < w.heap.size := World.block_lt_of_cell? w a h
theorem resF_grow {w w' : World} (hk : ∀ b, b < w.heap.size → w'.heap[b]? = w.heap[b]?) : ∀ (st : List (Nat × Nat × Nat)) (l : Option (Nat × Nat)) (x : Nat × Nat),
    resF w l st = some x → resF w' l st = some x
  | [], _, _, h => h
  | (e, i, f) :: r, some (b, c), x, h => by
    simp only [resF] at h ⊢
    cases hc : w.cell? ⟨b, i * e + f, none⟩ with
    | none => rw [hc] at h; simp at h
    | some v =>
      have hlt := cell?_some_lt hc
      have hc' : w'.cell? ⟨b, i * e + f, none⟩ = some v := by rw [World.cell?_of_block (hk b hlt)]; exact hc
      rw [hc] at h; rw [hc']
      split at h
      · exact resF_grow hk r _ x h
      · exact resF_grow hk r _ x h
      · simp at h
  | _ :: _, none, _, h => by simp [resF] at h
mutual
def C.ref (p : Nat → List (Nat × Nat × Nat) → Bool) : C → Bool
  | .vw _ _ id st _ _ => p id st
  | .pt _ id st _ _ => p id st
  | .ps cs => refCs p cs
  | .fn _ cap => refCs p cap
  | _ => false
def refCs (p : Nat → List (Nat × Nat × Nat) → Bool) : List C → Bool
  | [] => false
  | c :: cs => c.ref p || refCs p cs
end
def refTup (p : Nat → List (Nat × Nat × Nat) → Bool) : List (Bool × List C) → Bool
  | [] => false
  | (_, cs) :: r => refCs p cs || refTup p r
def A.ref (p : Nat → List (Nat × Nat × Nat) → Bool) : A → Bool
  | .one c => c.ref p
  | .agg cs => refCs p cs
  | .tup xs => refTup p xs
def dropR (p : Nat → List (Nat × Nat × Nat) → Bool) : List (Nat × A) → List (Nat × A)
  | [] => []
  | (k, a) :: r => if a.ref p then dropR p r else (k, a) :: dropR p r
section
variable {w w' : World} {N N' : Nat → Prop} {lc lc' : Loc} {p : Nat → List (Nat × Nat × Nat) → Bool}
mutual
theorem repT_keep (c : C) (g : Value) (F : Fp) (hk : ∀ b, 1 ≤ F b ∨ N b → w'.heap[b]? = w.heap[b]?) (hN : ∀ b, N b → N' b)
    (hr : ∀ id st, p id st = false → ∀ x, resF w (lc id) st = some x → resF w' (lc' id) st = some x) (hp : c.ref p = false) (h : repT w N lc c g F) : repT w' N' lc' c g F := by
  cases c with
  | vw t e id st lo n =>
    simp only [repT, C.ref] at h hp ⊢
    obtain ⟨rfl, h | ⟨b, cap, a, h1, h2⟩⟩ := h
    · exact ⟨rfl, .inl h⟩
    · exact ⟨rfl, .inr ⟨b, cap, a, hr id st hp _ h1, h2⟩⟩
  | pt e id st i f =>
    simp only [repT, C.ref] at h hp ⊢
    obtain ⟨rfl, b, cap, h1, h2⟩ := h
    exact ⟨rfl, b, cap, hr id st hp _ h1, h2⟩
  | ps cs =>
    simp only [repT, C.ref] at h hp ⊢
    obtain ⟨rfl, b, off, cur, ty, fr, hg, hb, hh, ho, hrow⟩ := h
    exact ⟨rfl, b, off, cur, ty, fr, hg, hN b hb, (hk b (.inr hb)).trans hh, ho, repRowT_keep cs _ _ (fun b hb => hk b hb) hN hr hp hrow⟩
  | dead => exact h
  | int k n => exact repC_keep _ _ _ hk hN h
  | bool b => exact repC_keep _ _ _ hk hN h
  | str s => exact repC_keep _ _ _ hk hN h
  | ar o t e xs => exact repC_keep _ _ _ hk hN h
  | op t e cs => exact repC_keep _ _ _ hk hN h
  | np => exact repC_keep _ _ _ hk hN h
  | fn f cap =>
    simp only [repT, C.ref] at h hp ⊢
    obtain ⟨rfl, vs, hg, hrow⟩ := h
    exact ⟨rfl, vs, hg, repRowT_keep cap _ _ hk hN hr hp hrow⟩
theorem repRowT_keep : ∀ (cs : List C) (vs : List Value) (F : Fp), (∀ b, 1 ≤ F b ∨ N b → w'.heap[b]? = w.heap[b]?) → (∀ b, N b → N' b) →
    (∀ id st, p id st = false → ∀ x, resF w (lc id) st = some x → resF w' (lc' id) st = some x) → refCs p cs = false → repRowT w N lc cs vs F → repRowT w' N' lc' cs vs F
  | [], _, _, _, _, _, _, h => h
  | c :: cs, vs, F, hk, hN, hr, hp, h => by
    simp only [repRowT, refCs, Bool.or_eq_false_iff] at h hp ⊢
    obtain ⟨v, vs', F1, F2, hv, rfl, h1, h2⟩ := h
    exact ⟨v, vs', F1, F2, hv, rfl, repT_keep c v F1 (fun b hb => hk b (hb.imp_left fun h => by simp only [add]; omega)) hN hr hp.1 h1,
      repRowT_keep cs vs' F2 (fun b hb => hk b (hb.imp_left fun h => by simp only [add]; omega)) hN hr hp.2 h2⟩
end
theorem repTup_keep : ∀ (xs : List (Bool × List C)) (gs : List Value) (F : Fp), (∀ b, 1 ≤ F b ∨ N b → w'.heap[b]? = w.heap[b]?) → (∀ b, N b → N' b) →
    (∀ id st, p id st = false → ∀ x, resF w (lc id) st = some x → resF w' (lc' id) st = some x) → refTup p xs = false → repTup w N lc xs gs F → repTup w' N' lc' xs gs F
  | [], _, _, _, _, _, _, h => h
  | (ag, cs) :: r, gs, F, hk, hN, hr, hp, h => by
    simp only [repTup, refTup, Bool.or_eq_false_iff] at h hp ⊢
    obtain ⟨v, vs', F1, F2, hv, rfl, h1, h2⟩ := h
    refine ⟨v, vs', F1, F2, hv, rfl, ?_, repTup_keep r vs' F2 (fun b hb => hk b (hb.imp_left fun h => by simp only [add]; omega)) hN hr hp.2 h2⟩
    cases ag
    · obtain ⟨c, rfl, h1⟩ := h1
      simp only [refCs, Bool.or_false] at hp
      exact ⟨c, rfl, repT_keep c v F1 (fun b hb => hk b (hb.imp_left fun h => by simp only [add]; omega)) hN hr hp.1 h1⟩
    · obtain ⟨vs, hv, h1⟩ := h1
      exact ⟨vs, hv, repRowT_keep cs vs F1 (fun b hb => hk b (hb.imp_left fun h => by simp only [add]; omega)) hN hr hp.1 h1⟩
theorem repA_keep (a : A) (g : Value) (F : Fp) (hk : ∀ b, 1 ≤ F b ∨ N b → w'.heap[b]? = w.heap[b]?) (hN : ∀ b, N b → N' b)
    (hr : ∀ id st, p id st = false → ∀ x, resF w (lc id) st = some x → resF w' (lc' id) st = some x) (hp : a.ref p = false) (h : repA w N lc a g F) : repA w' N' lc' a g F := by
  cases a with
  | one c => exact repT_keep c g F hk hN hr hp h
  | agg cs =>
    obtain ⟨vs, hg, h⟩ := h
    exact ⟨vs, hg, repRowT_keep cs vs F hk hN hr hp h⟩
  | tup xs =>
    obtain ⟨gs, hg, h⟩ := h
    exact ⟨gs, hg, repTup_keep xs gs F hk hN hr hp h⟩
theorem repTm_drop (tmps : Array Value) : ∀ (tm : List (Nat × A)) (F : Fp), (∀ b, 1 ≤ F b ∨ N b → w'.heap[b]? = w.heap[b]?) → (∀ b, N b → N' b) →
    (∀ id st, p id st = false → ∀ x, resF w (lc id) st = some x → resF w' (lc' id) st = some x) → repTm w N lc tmps tm F →
    ∃ F', (∀ b, F' b ≤ F b) ∧ repTm w' N' lc' tmps (dropR p tm) F'
  | [], F, _, _, _, h => ⟨F, fun _ => Nat.le_refl _, h⟩
  | (k, a) :: r, F, hk, hN, hr, h => by
    simp only [repTm] at h
    obtain ⟨F1, F2, rfl, h1, h2⟩ := h
    obtain ⟨F', hle, h'⟩ := repTm_drop tmps r F2 (fun b hb => hk b (hb.imp_left fun h => by simp only [add]; omega)) hN hr h2
    by_cases hp : a.ref p = true
    · simp only [dropR, hp, if_true]
      exact ⟨F', fun b => by have := hle b; simp only [add]; omega, h'⟩
    · have hp : a.ref p = false := by simpa using hp
      simp only [dropR, hp, Bool.false_eq_true, if_false, repTm]
      exact ⟨add F1 F', fun b => by have := hle b; simp only [add]; omega, F1, F', rfl,
        repA_keep a _ F1 (fun b hb => hk b (hb.imp_left fun h => by simp only [add]; omega)) hN hr hp h1, h'⟩
mutual
theorem ref_false : ∀ c : C, c.ref (fun _ _ => false) = false
  | .vw .. => rfl
  | .pt .. => rfl
  | .ps cs => refCs_false cs
  | .int .. => rfl
  | .bool .. => rfl
  | .str .. => rfl
  | .np => rfl
  | .fn _ cap => refCs_false cap
  | .dead => rfl
  | .op .. => rfl
  | .ar .. => rfl
theorem refCs_false : ∀ cs : List C, refCs (fun _ _ => false) cs = false
  | [] => rfl
  | c :: cs => by simp [refCs, ref_false c, refCs_false cs]
end
theorem refTup_false : ∀ xs : List (Bool × List C), refTup (fun _ _ => false) xs = false
  | [] => rfl
  | (_, cs) :: r => by simp [refTup, refCs_false cs, refTup_false r]
theorem repTm_keep (tmps : Array Value) : ∀ (tm : List (Nat × A)) (F : Fp), (∀ b, 1 ≤ F b ∨ N b → w'.heap[b]? = w.heap[b]?) → (∀ b, N b → N' b) →
    (∀ id st x, resF w (lc id) st = some x → resF w' (lc' id) st = some x) → repTm w N lc tmps tm F → repTm w' N' lc' tmps tm F
  | [], _, _, _, _, h => h
  | (k, a) :: r, F, hk, hN, hr, h => by
    simp only [repTm] at h ⊢
    obtain ⟨F1, F2, rfl, h1, h2⟩ := h
    have hp : a.ref (fun _ _ => false) = false := by
      have hc : ∀ c : C, c.ref (fun _ _ => false) = false := ref_false
      have hcs : ∀ cs : List C, refCs (fun _ _ => false) cs = false := refCs_false
      have ht : ∀ xs, refTup (fun _ _ => false) xs = false := fun xs => by induction xs with | nil => rfl | cons c cs ih => simp [refTup, hcs, ih]
      cases a with
      | one c => exact hc c
      | agg cs => exact hcs cs
      | tup xs => exact ht xs
    exact ⟨F1, F2, rfl, repA_keep (p := fun _ _ => false) a _ F1 (fun b hb => hk b (hb.imp_left fun h => by simp only [add]; omega)) hN (fun id st _ => hr id st) hp h1,
      repTm_keep tmps r F2 (fun b hb => hk b (hb.imp_left fun h => by simp only [add]; omega)) hN hr h2⟩
end
section
variable {w : World} {N : Nat → Prop} {lc : Loc} {tmps : Array Value}
theorem repTm_look : ∀ (tm : List (Nat × A)) (F : Fp) (d : Nat) (a : A), look tm d = some a → repTm w N lc tmps tm F →
    ∃ F1 F2, (∀ b, F1 b + F2 b ≤ F b) ∧ repA w N lc a (tmps.getD d undef) F1 ∧ repTm w N lc tmps (del tm d) F2
  | [], _, _, _, hl, _ => by simp [look] at hl
  | (k, x) :: r, F, d, a, hl, h => by
    simp only [repTm] at h
    obtain ⟨F1, F2, rfl, h1, h2⟩ := h
    simp only [look] at hl
    have hdel : ∀ (r : List (Nat × A)) (F2 : Fp), repTm w N lc tmps r F2 → ∃ G, (∀ b, G b ≤ F2 b) ∧ repTm w N lc tmps (del r d) G := by
      intro r
      induction r with
      | nil => intro F2 h; exact ⟨F2, fun _ => Nat.le_refl _, h⟩
      | cons y r ih =>
        intro F2 h
        obtain ⟨k', y⟩ := y
        simp only [repTm] at h
        obtain ⟨G1, G2, rfl, g1, g2⟩ := h
        obtain ⟨G, hG, hr⟩ := ih G2 g2
        simp only [del]
        split
        · exact ⟨G, fun b => by have := hG b; simp only [add]; omega, hr⟩
        · simp only [repTm]
          exact ⟨add G1 G, fun b => by have := hG b; simp only [add]; omega, G1, G, rfl, g1, hr⟩
    split at hl
    · rename_i hkd
      subst hkd
      injection hl with hl
      subst hl
      obtain ⟨G, hG, hr⟩ := hdel r F2 h2
      refine ⟨F1, G, fun b => by have := hG b; simp only [add]; omega, h1, ?_⟩
      simp only [del, if_true]
      exact hr
    · rename_i hkd
      obtain ⟨G1, G2, hG, g1, g2⟩ := repTm_look r F2 d a hl h2
      refine ⟨G1, add F1 G2, fun b => by have := hG b; simp only [add]; omega, g1, ?_⟩
      simp only [del, if_neg hkd, repTm]
      exact ⟨F1, G2, rfl, h1, g2⟩
theorem repTm_del (d : Nat) : ∀ (r : List (Nat × A)) (F2 : Fp), repTm w N lc tmps r F2 → ∃ G, (∀ b, G b ≤ F2 b) ∧ repTm w N lc tmps (del r d) G
  | [], F2, h => ⟨F2, fun _ => Nat.le_refl _, h⟩
  | (k', y) :: r, F2, h => by
    simp only [repTm] at h
    obtain ⟨G1, G2, rfl, g1, g2⟩ := h
    obtain ⟨G, hG, hr⟩ := repTm_del d r G2 g2
    simp only [del]
    split
    · exact ⟨G, fun b => by have := hG b; simp only [add]; omega, hr⟩
    · simp only [repTm]
      exact ⟨add G1 G, fun b => by have := hG b; simp only [add]; omega, G1, G, rfl, g1, hr⟩
theorem del_none (d : Nat) : ∀ r : List (Nat × A), ∀ k a, (k, a) ∈ del r d → k ≠ d
  | [], _, _, h => by simp [del] at h
  | (k', y) :: r, k, a, h => by
    simp only [del] at h
    split at h
    · exact del_none d r k a h
    · rename_i hk
      rcases List.mem_cons.1 h with h | h
      · injection h with h1 _; subst h1; exact hk
      · exact del_none d r k a h
theorem repTm_other (d : Nat) (v : Value) : ∀ (r : List (Nat × A)) (F : Fp), (∀ k a, (k, a) ∈ r → k ≠ d) → repTm w N lc tmps r F → repTm w N lc (tmps.setIfInBounds d v) r F
  | [], _, _, h => h
  | (k, a) :: r, F, hd, h => by
    simp only [repTm] at h ⊢
    obtain ⟨F1, F2, rfl, h1, h2⟩ := h
    refine ⟨F1, F2, rfl, ?_, repTm_other d v r F2 (fun k' a' hm => hd k' a' (List.mem_cons_of_mem _ hm)) h2⟩
    have hkd : k ≠ d := hd k a (List.mem_cons_self ..)
    have : (tmps.setIfInBounds d v).getD k undef = tmps.getD k undef := by
      simp [Array.getD_eq_getD_getElem?, Array.getElem?_setIfInBounds, Ne.symm hkd]
    rw [this]; exact h1
theorem repTm_put {d : Nat} {v : Value} {a : A} {r : List (Nat × A)} {F1 F2 : Fp} (hd : d < tmps.size) (h1 : repA w N lc a v F1) (h2 : repTm w N lc tmps r F2) :
    ∃ F', (∀ b, F' b ≤ F1 b + F2 b) ∧ repTm w N lc (tmps.setIfInBounds d v) (put r d a) F' := by
  obtain ⟨G, hG, hr⟩ := repTm_del (w := w) (N := N) (lc := lc) (tmps := tmps) d r F2 h2
  refine ⟨add F1 G, fun b => by have := hG b; simp only [add]; omega, ?_⟩
  simp only [put, repTm]
  refine ⟨F1, G, rfl, ?_, repTm_other d v _ G (del_none d r) hr⟩
  have : (tmps.setIfInBounds d v).getD d undef = v := by simp [Array.getD_eq_getD_getElem?, hd]
  rw [this]; exact h1
end
end Go.Am
namespace Go.Am
inductive X where
  | t (n : Nat)
  | c (c : C)
  deriving Inhabited
inductive I where
  | mv (x : X)
  | asn (x : X)
  | asf (x : X)
  | als (x : X)
  | pick (c a b : X)
  | bin (o : BinOp) (x y : X)
  | beq (ne : Bool) (x y : X)
  | not (x : X)
  | neg (x : X)
  | conv (k : IntKind) (x : X)
  | len (x : X)
  | lns (x : X)
  | mnx (mx : Bool) (x y : X)
  | ext (i : Nat) (x : X)
  | fld (off n : Nat) (ag : Bool) (x : X)
  | idx (x i : X)
  | fad (off : Nat) (p : X)
  | iad (e : Nat) (x i : X)
  | ld (n : Nat) (ag : Bool) (p : X)
  | slc (e : Nat) (x : X) (lo hi : Option X)
  | sls (x : X) (lo hi : Option X)
  | b2s (x : X)
  | sqe (ne : Bool) (ks : List Bool) (x y : X)
  | bld (fz : Bool) (z : List C) (parts : List (Nat × Nat × X))
  | idxa (len e : Nat) (ag : Bool) (x i : X)
  | nil (x : X)
  | iaa (len e : Nat) (x i : X)
  | mkf (f : Nat) (xs : List X)
  | box (t e : Nat) (x : X)
  | boxs (e : Nat) (x : X)
  | alc (t e : Nat) (z : List C)
  | st (n : Nat) (fz : Bool) (p v : X)
  | bls (t e : Nat) (fz : Bool) (parts : List X)
  | mks (t e by_ : Nat) (z : List C) (l c : X)
  | app (t e by_ : Nat) (fz : Bool) (s x : X)
  | call (f : Nat) (args : List X)
  | callr (f : Nat) (x : X) (args : List X)
  | callo (f k : Nat) (args : List X)
  | callv (x : X) (args : List X)
  | calln (f : Nat) (js : List Nat) (args : List X)
  | callz (f : Nat) (ns : List Nat) (args : List X)
  | callzr (f : Nat) (ns : List Nat) (x : X) (args : List X)
  | callf (f : Nat) (args : List X)
  | callrf (f : Nat) (x : X) (args : List X)
  | callro (f : Nat) (x : X) (args : List X)
  deriving Inhabited
structure Ins where
  d : Option Nat
  gd : Option (Nat × Bool)
  i : I
  deriving Inhabited
def ev (σ : St) : X → Option A
  | .t n => look σ.tm n
  | .c c => some (.one c)
def C.aff : C → Bool
  | .ar true _ _ _ => true
  | .op .. => true
  | _ => false
def affCs : List C → Bool
  | [] => false
  | c :: cs => c.aff || affCs cs
def affTup : List (Bool × List C) → Bool
  | [] => false
  | (_, cs) :: r => affCs cs || affTup r
def A.aff : A → Bool
  | .one c => c.aff
  | .agg cs => affCs cs
  | .tup xs => affTup xs
section
variable {w : World} {N : Nat → Prop} {lc : Loc}
theorem repC_aff {c : C} {g : Value} {F : Fp} (ha : c.aff = false) (h : repC w N c g F) : F = fz := by
  cases c with
  | int k n => exact h.2
  | bool b => exact h.2
  | str s => exact h.2
  | np => exact h.2
  | vw => exact h.elim
  | pt => exact h.elim
  | ps => exact h.elim
  | fn f cap => exact h.1
  | dead => exact h.1
  | op => simp [C.aff] at ha
  | ar o t e xs =>
    cases o with
    | true => simp [C.aff] at ha
    | false => exact h.1
theorem repT_aff {c : C} {g : Value} {F : Fp} (ha : c.aff = false) (h : repT w N lc c g F) : F = fz := by
  cases c with
  | vw => exact h.1
  | pt => exact h.1
  | ps => exact h.1
  | dead => exact h
  | op => simp [C.aff] at ha
  | int k n => exact repC_aff (w := w) (N := N) ha h
  | bool b => exact repC_aff (w := w) (N := N) ha h
  | str s => exact repC_aff (w := w) (N := N) ha h
  | np => exact repC_aff (w := w) (N := N) ha h
  | fn f cap => exact h.1
  | ar o t e xs => exact repC_aff (w := w) (N := N) ha h
theorem repRowT_aff : ∀ {cs : List C} {vs : List Value} {F : Fp}, affCs cs = false → repRowT w N lc cs vs F → F = fz
  | [], _, _, _, h => h.2
  | c :: cs, _, _, ha, ⟨v, vs', F1, F2, _, hF, h1, h2⟩ => by
    simp only [affCs, Bool.or_eq_false_iff] at ha
    rw [hF, repT_aff ha.1 h1, repRowT_aff ha.2 h2, add_fz]
theorem repTup_aff : ∀ {xs : List (Bool × List C)} {gs : List Value} {F : Fp}, affTup xs = false → repTup w N lc xs gs F → F = fz
  | [], _, _, _, h => h.2
  | (ag, cs) :: r, _, _, ha, ⟨v, vs', F1, F2, _, hF, h1, h2⟩ => by
    simp only [affTup, Bool.or_eq_false_iff] at ha
    have : F1 = fz := by
      cases ag with
      | true => obtain ⟨_, _, h1⟩ := h1; exact repRowT_aff ha.1 h1
      | false =>
        obtain ⟨c, rfl, h1⟩ := h1
        simp only [affCs, Bool.or_false] at ha
        exact repT_aff ha.1 h1
    rw [hF, this, repTup_aff ha.2 h2, add_fz]
theorem repA_aff {a : A} {g : Value} {F : Fp} (ha : a.aff = false) (h : repA w N lc a g F) : F = fz := by
  cases a with
  | one c => exact repT_aff ha h
  | agg cs => obtain ⟨_, _, h⟩ := h; exact repRowT_aff ha h
  | tup xs => obtain ⟨_, _, h⟩ := h; exact repTup_aff ha h
end
def takeX (σ : St) (x : X) : Option (A × St) :=
  match x with
  | .t n => match look σ.tm n with
    | some a => some (a, if a.aff then { σ with tm := del σ.tm n } else σ)
    | none => none
  | .c c => some (.one c, σ)
def setT (σ : St) (d : Option Nat) (a : A) : St :=
  match d with
  | some d => { σ with tm := put σ.tm d a }
  | none => σ
def XOf : X → Operand → Prop
  | .t n, .tmp m => n = m
  | .c c, o => ∀ (w : World) (N : Nat → Prop) (lc : Loc) (a : Act), repT w N lc c (a.eval o) fz
  | _, _ => False
section
variable {w : World} {N : Nat → Prop} {lc : Loc} {tmps : Array Value} {ds : List Deferred} {F G : Fp} {σ σ1 : St}
theorem takeX_ok {x : X} {o : Operand} {a : A} (hx : XOf x o) (h : takeX σ x = some (a, σ1)) (hh : Hold w N lc σ tmps F G) :
    ∃ G1, repA w N lc a ((Act.mk tmps ds).eval o) G1 ∧ Hold w N lc σ1 tmps F (add G G1) ∧ σ1.ob = σ.ob ∧ (a.aff = false → G1 = fz ∧ σ1 = σ) := by
  cases x with
  | c c =>
    simp only [takeX, Option.some.injEq, Prod.mk.injEq] at h
    obtain ⟨rfl, rfl⟩ := h
    refine ⟨fz, hx w N lc _, by rw [add_fz]; exact hh, rfl, fun _ => ⟨rfl, rfl⟩⟩
  | t n =>
    cases o with
    | tmp m =>
      have hnm : n = m := hx
      subst hnm
      obtain ⟨Ft, Fo, hle, ht, ho⟩ := hh
      simp only [takeX] at h
      cases hl : look σ.tm n with
      | none => rw [hl] at h; simp at h
      | some a' =>
        rw [hl] at h
        simp only [Option.some.injEq, Prod.mk.injEq] at h
        obtain ⟨rfl, rfl⟩ := h
        obtain ⟨F1, F2, hle', h1, h2⟩ := repTm_look σ.tm Ft n a' hl ht
        cases haff : a'.aff with
        | true =>
          simp only [if_true]
          exact ⟨F1, h1, ⟨F2, Fo, fun b => by have := hle b; have := hle' b; simp only [add]; omega, h2, ho⟩, trivial, fun h => by simp at h⟩
        | false =>
          have : F1 = fz := repA_aff haff h1
          subst this
          simp only [Bool.false_eq_true, if_false]
          exact ⟨fz, h1, ⟨Ft, Fo, fun b => by have := hle b; simp only [add, fz]; omega, ht, ho⟩, trivial, fun _ => ⟨rfl, trivial⟩⟩
    | const => exact hx.elim
    | global => exact hx.elim
    | func => exact hx.elim
theorem ev_ok {x : X} {o : Operand} {a : A} (hx : XOf x o) (h : ev σ x = some a) (hh : Hold w N lc σ tmps F G) :
    ∃ G1, repA w N lc a ((Act.mk tmps ds).eval o) G1 ∧ ∀ b, G1 b ≤ F b := by
  cases x with
  | c c =>
    simp only [ev, Option.some.injEq] at h
    subst h
    exact ⟨fz, hx w N lc _, fun _ => Nat.zero_le _⟩
  | t n =>
    cases o with
    | tmp m =>
      have hnm : n = m := hx
      subst hnm
      obtain ⟨Ft, Fo, hle, ht, ho⟩ := hh
      obtain ⟨F1, F2, hle', h1, h2⟩ := repTm_look σ.tm Ft n a h ht
      exact ⟨F1, h1, fun b => by have := hle b; have := hle' b; omega⟩
    | const => exact hx.elim
    | global => exact hx.elim
    | func => exact hx.elim
theorem setT_ok {d : Option Nat} {a : A} {v : Value} {G1 : Fp} (hh : Hold w N lc σ tmps F (add G G1)) (ha : repA w N lc a v G1) (hd : ∀ k, d = some k → k < tmps.size) :
    Hold w N lc (setT σ d a) ((Act.mk tmps ds).put d v).tmps F G := by
  obtain ⟨Ft, Fo, hle, ht, ho⟩ := hh
  cases d with
  | none => exact ⟨Ft, Fo, fun b => by have := hle b; simp only [add] at this; omega, ht, ho⟩
  | some d =>
    obtain ⟨F', hle', h'⟩ := repTm_put (d := d) (hd d rfl) ha ht
    exact ⟨F', Fo, fun b => by have h1 := hle b; have h2 := hle' b; simp only [add] at h1; omega, h', ho⟩
end
end Go.Am
namespace Go.Am
def intBin (op : BinOp) (k : IntKind) (a b : Int) : Option C :=
  match op with
  | .add => some (.int k (k.wrap (a + b)))
  | .sub => some (.int k (k.wrap (a - b)))
  | .mul => some (.int k (k.wrap (a * b)))
  | .quo => if b = 0 then none else some (.int k (k.wrap (a.tdiv b)))
  | .rem => if b = 0 then none else some (.int k (a.tmod b))
  | .and => some (.int k (k.wrap (BitVec.ofInt k.bits a &&& BitVec.ofInt k.bits b).toNat))
  | .or => some (.int k (k.wrap (BitVec.ofInt k.bits a ||| BitVec.ofInt k.bits b).toNat))
  | .xor => some (.int k (k.wrap (BitVec.ofInt k.bits a ^^^ BitVec.ofInt k.bits b).toNat))
  | .eql => some (.bool (a == b))
  | .neq => some (.bool (a != b))
  | .lss => some (.bool (decide (a < b)))
  | .leq => some (.bool (decide (a ≤ b)))
  | .gtr => some (.bool (decide (a > b)))
  | .geq => some (.bool (decide (a ≥ b)))
  | .shl | .shr | .andNot => none
def intShift (op : BinOp) (k : IntKind) (a b : Int) : Option C :=
  if b < 0 then none else
  match op with
  | .shl => some (.int k (k.wrap (a * 2 ^ (min b.toNat k.bits))))
  | .shr => some (.int k (a.fdiv (2 ^ (min b.toNat k.bits))))
  | _ => none
def strBin (op : BinOp) (a b : ByteArray) : Option C :=
  match op with
  | .add => if a.size + b.size ≤ 4294967296 then some (.str (a ++ b)) else none
  | .eql => some (.bool (a.toList == b.toList))
  | .neq => some (.bool (!(a.toList == b.toList)))
  | _ => none
def runBin (op : BinOp) (x y : A) : Option C :=
  match x, y with
  | .one (.int k a), .one (.int k' b) =>
    match op with
    | .shl => intShift .shl k a b
    | .shr => intShift .shr k a b
    | op => if k = k' then intBin op k a b else none
  | .one (.str a), .one (.str b) => strBin op a b
  | _, _ => none
theorem runBin_ok {P : Program} {op : BinOp} {x y : A} {c : C} (h : runBin op x y = some c) {w : World} {N : Nat → Prop} {lc : Loc} {g1 g2 : Value} {F1 F2 : Fp}
    (h1 : repA w N lc x g1 F1) (h2 : repA w N lc y g2 F2) (t : TypeId) :
    ∃ v, (binOp op t g1 g2).run P w = .ok v w ∧ repT w N lc c v fz ∧ (∀ (x y : Operand), (eqGuard op t x y g1 g2).run P w = .ok () w) := by
  unfold runBin at h
  split at h
  · rename_i k a k' b
    obtain ⟨rfl, _⟩ := h1
    obtain ⟨rfl, _⟩ := h2
    have hq : ∀ (x y : Operand), (eqGuard op t x y (.int k a) (.int k' b)).run P w = .ok () w := fun x y => by unfold eqGuard; cases op <;> rfl
    cases op
    case shl =>
      simp only [intShift] at h
      by_cases hb : b < 0
      · simp [hb] at h
      · simp only [hb, if_false, Option.some.injEq] at h
        subst h
        exact ⟨_, by simp only [binOp, Op.shift, if_neg hb]; rfl, ⟨rfl, rfl⟩, hq⟩
    case shr =>
      simp only [intShift] at h
      by_cases hb : b < 0
      · simp [hb] at h
      · simp only [hb, if_false, Option.some.injEq] at h
        subst h
        exact ⟨_, by simp only [binOp, Op.shift, if_neg hb]; rfl, ⟨rfl, rfl⟩, hq⟩
    all_goals
      by_cases hk : k = k'
      · subst hk
        simp only [if_true, intBin] at h
        first
          | (simp only [Option.some.injEq] at h
             subst h
             exact ⟨_, by simp [binOp]; rfl, ⟨rfl, rfl⟩, hq⟩)
          | (by_cases hb : b = 0
             · simp [hb] at h
             · simp only [hb, if_false, Option.some.injEq] at h
               subst h
               exact ⟨_, by simp only [binOp, Op.intDiv, if_neg hb, ne_eq, not_true_eq_false, if_false]; rfl, ⟨rfl, rfl⟩, hq⟩)
          | simp at h
      · simp [hk] at h
  · rename_i a b
    obtain ⟨rfl, _⟩ := h1
    obtain ⟨rfl, _⟩ := h2
    have hq : ∀ (x y : Operand), (eqGuard op t x y (.string a) (.string b)).run P w = .ok () w := fun x y => by unfold eqGuard; cases op <;> rfl
    cases op
    case add =>
      simp only [strBin] at h
      split at h
      · rename_i hs
        simp only [Option.some.injEq] at h
        subst h
        refine ⟨_, ?_, ⟨rfl, rfl⟩, hq⟩
        have : ¬ (((a.size + b.size : Nat) : Int) > IntKind.i64.max) := by
          have : IntKind.i64.max = 9223372036854775807 := by decide
          rw [this]; omega
        simp only [binOp, Op.stringOp, if_neg this]; rfl
      · simp at h
    case eql =>
      simp only [strBin, Option.some.injEq] at h
      subst h
      exact ⟨_, by simp only [binOp, Op.stringOp]; rfl, ⟨rfl, rfl⟩, hq⟩
    case neq =>
      simp only [strBin, Option.some.injEq] at h
      subst h
      exact ⟨_, by simp only [binOp, Op.stringOp]; rfl, ⟨rfl, rfl⟩, hq⟩
    all_goals simp [strBin] at h
  · simp at h
def C.sc : C → Bool
  | .int .. | .bool _ | .str _ => true
  | _ => false
theorem intBin_sc {op : BinOp} {k : IntKind} {a b : Int} {c : C} (h : intBin op k a b = some c) : c.sc = true := by
  cases op <;> simp only [intBin] at h <;> (try split at h) <;> first | (injection h with h; subst h; rfl) | cases h
theorem runBin_sc {op : BinOp} {x y : A} {c : C} (h : runBin op x y = some c) : c.sc = true := by
  unfold runBin at h
  split at h
  · split at h
    · simp only [intShift] at h; split at h <;> first | (injection h with h; subst h; rfl) | cases h
    · simp only [intShift] at h; split at h <;> first | (injection h with h; subst h; rfl) | cases h
    · split at h
      · exact intBin_sc h
      · cases h
  · cases op <;> simp only [strBin] at h <;> (try split at h) <;> first | (injection h with h; subst h; rfl) | cases h
  · cases h
theorem repT_sc {w w' : World} {N N' : Nat → Prop} {lc lc' : Loc} {c : C} {g g' : Value} {F F' : Fp} (hs : c.sc = true) (h : repT w N lc c g F) (h' : repT w' N' lc' c g' F') : g = g' := by
  cases c with
  | int k n => exact h.1.trans h'.1.symm
  | bool b => exact h.1.trans h'.1.symm
  | str s => exact h.1.trans h'.1.symm
  | _ => simp [C.sc] at hs
theorem runBin_all {P : Program} {op : BinOp} {x y : A} {c : C} (h : runBin op x y = some c) {w : World} {N : Nat → Prop} {lc : Loc} {g1 g2 : Value} {F1 F2 : Fp}
    (h1 : repA w N lc x g1 F1) (h2 : repA w N lc y g2 F2) (t : TypeId) :
    ∃ v, (∀ w' : World, (binOp op t g1 g2).run P w' = .ok v w') ∧ repT w N lc c v fz ∧ (∀ (x y : Operand) (w' : World), (eqGuard op t x y g1 g2).run P w' = .ok () w') := by
  obtain ⟨v, _, hr, _⟩ := runBin_ok (P := P) h h1 h2 t
  have key : ∀ w' : World, repA w' N lc x g1 F1 ∧ repA w' N lc y g2 F2 := by
    intro w'
    unfold runBin at h
    split at h
    · exact ⟨h1, h2⟩
    · exact ⟨h1, h2⟩
    · cases h
  refine ⟨v, fun w' => ?_, hr, fun x y w' => ?_⟩
  · obtain ⟨v', hv', hr', _⟩ := runBin_ok (P := P) h (key w').1 (key w').2 t
    rw [repT_sc (runBin_sc h) hr hr']; exact hv'
  · obtain ⟨v', _, _, hq'⟩ := runBin_ok (P := P) h (key w').1 (key w').2 t
    exact hq' x y
end Go.Am
namespace Go.Am
section
variable {w : World} {N : Nat → Prop} {lc : Loc}
theorem repRow_len : ∀ {cs : List C} {vs : List Value} {F : Fp}, repRow w N cs vs F → vs.length = cs.length
  | [], _, _, h => by simp only [repRow] at h; simp [h.1]
  | c :: cs, _, _, h => by
    simp only [repRow] at h
    obtain ⟨v, vs', F1, F2, rfl, _, _, h2⟩ := h
    simp [repRow_len h2]
theorem repRows_len {e : Nat} : ∀ {xs : List (List C)} {vs : List Value} {F : Fp}, repRows w N e xs vs F → vs.length = xs.length * e
  | [], _, _, h => by simp only [repRows] at h; simp [h.1]
  | r :: rs, _, _, h => by
    simp only [repRows] at h
    obtain ⟨v1, v2, F1, F2, rfl, hl, _, h1, h2⟩ := h
    have := repRow_len h1
    have := repRows_len h2
    simp only [List.length_append, List.length_cons, Nat.add_mul, Nat.one_mul]
    omega
theorem repRow_cell : ∀ {cs : List C} {vs : List Value} {F : Fp} {f : Nat} {c : C}, repRow w N cs vs F → cs[f]? = some c →
    ∃ v F1 F2, vs[f]? = some v ∧ F = add F1 F2 ∧ repC w N c v F1 ∧
      ∀ (w' : World) (N' : Nat → Prop) (c' : C) (v' : Value) (F1' : Fp), (∀ b, 1 ≤ F2 b ∨ N b → w'.heap[b]? = w.heap[b]?) → (∀ b, N b → N' b) →
        repC w' N' c' v' F1' → repRow w' N' (cs.set f c') (vs.set f v') (add F1' F2)
  | [], _, _, _, _, _, hf => by simp at hf
  | c0 :: cs, _, _, 0, c, h, hf => by
    simp only [repRow] at h
    obtain ⟨v, vs', F1, F2, rfl, rfl, h1, h2⟩ := h
    simp only [List.getElem?_cons_zero, Option.some.injEq] at hf
    subst hf
    refine ⟨v, F1, F2, rfl, rfl, h1, fun w' N' c' v' F1' hk hN h' => ?_⟩
    simp only [List.set_cons_zero, repRow]
    exact ⟨v', vs', F1', F2, rfl, rfl, h', repRow_keep cs vs' F2 hk hN h2⟩
  | c0 :: cs, _, _, f + 1, c, h, hf => by
    simp only [repRow] at h
    obtain ⟨v, vs', F1, F2, rfl, rfl, h1, h2⟩ := h
    simp only [List.getElem?_cons_succ] at hf
    obtain ⟨v0, G1, G2, hv, rfl, hc, hset⟩ := repRow_cell h2 hf
    refine ⟨v0, G1, add F1 G2, by simpa using hv, add_left_comm .., hc, fun w' N' c' v' F1' hk hN h' => ?_⟩
    simp only [List.set_cons_succ, repRow]
    exact ⟨v, vs'.set f v', F1, add F1' G2, rfl, add_left_comm .., repC_keep c0 v F1 (fun b hb => hk b (hb.imp_left fun h => by simp only [add]; omega)) hN h1,
      hset w' N' c' v' F1' (fun b hb => hk b (hb.imp_left fun h => by simp only [add]; omega)) hN h'⟩
theorem repRows_cell {e : Nat} : ∀ {xs : List (List C)} {vs : List Value} {F : Fp} {i f : Nat} {r : List C} {c : C}, repRows w N e xs vs F → xs[i]? = some r → r[f]? = some c →
    ∃ v F1 F2, vs[i * e + f]? = some v ∧ F = add F1 F2 ∧ repC w N c v F1 ∧ f < e ∧
      ∀ (w' : World) (N' : Nat → Prop) (c' : C) (v' : Value) (F1' : Fp), (∀ b, 1 ≤ F2 b ∨ N b → w'.heap[b]? = w.heap[b]?) → (∀ b, N b → N' b) →
        repC w' N' c' v' F1' → repRows w' N' e (xs.set i (r.set f c')) (vs.set (i * e + f) v') (add F1' F2)
  | [], _, _, _, _, _, _, _, hi, _ => by simp at hi
  | r0 :: rs, _, _, 0, f, r, c, h, hi, hf => by
    simp only [repRows] at h
    obtain ⟨v1, v2, F1, F2, rfl, hl, rfl, h1, h2⟩ := h
    simp only [List.getElem?_cons_zero, Option.some.injEq] at hi
    subst hi
    obtain ⟨v, G1, G2, hv, rfl, hc, hset⟩ := repRow_cell h1 hf
    have hlen := repRow_len h1
    have hfl : f < v1.length := by
      rcases Nat.lt_or_ge f v1.length with h | h
      · exact h
      · rw [List.getElem?_eq_none h] at hv; cases hv
    refine ⟨v, G1, add G2 F2, by simp only [Nat.zero_mul, Nat.zero_add]; rw [List.getElem?_append_left hfl]; exact hv, add_assoc .., hc, by omega, fun w' N' c' v' F1' hk hN h' => ?_⟩
    simp only [List.set_cons_zero, repRows, Nat.zero_mul, Nat.zero_add]
    refine ⟨v1.set f v', v2, add F1' G2, F2, by rw [List.set_append_left _ _ hfl], by simpa using hl, (add_assoc ..).symm, hset w' N' c' v' F1' (fun b hb => hk b (hb.imp_left fun h => by simp only [add]; omega)) hN h',
      repRows_keep e rs v2 F2 (fun b hb => hk b (hb.imp_left fun h => by simp only [add]; omega)) hN h2⟩
  | r0 :: rs, _, _, i + 1, f, r, c, h, hi, hf => by
    simp only [repRows] at h
    obtain ⟨v1, v2, F1, F2, rfl, hl, rfl, h1, h2⟩ := h
    simp only [List.getElem?_cons_succ] at hi
    obtain ⟨v, G1, G2, hv, rfl, hc, hfe, hset⟩ := repRows_cell h2 hi hf
    have hlen := repRow_len h1
    have hidx : (i + 1) * e + f = v1.length + (i * e + f) := by rw [hlen, hl, Nat.add_mul, Nat.one_mul]; omega
    refine ⟨v, G1, add F1 G2, by rw [hidx, List.getElem?_append_right (by omega), Nat.add_sub_cancel_left]; exact hv, add_left_comm .., hc, hfe, fun w' N' c' v' F1' hk hN h' => ?_⟩
    simp only [List.set_cons_succ, repRows]
    refine ⟨v1, v2.set (i * e + f) v', F1, add F1' G2, ?_, hl, add_left_comm .., repRow_keep r0 v1 F1 (fun b hb => hk b (hb.imp_left fun h => by simp only [add]; omega)) hN h1,
      hset w' N' c' v' F1' (fun b hb => hk b (hb.imp_left fun h => by simp only [add]; omega)) hN h'⟩
    rw [hidx, List.set_append_right _ _ (by omega), Nat.add_sub_cancel_left]
theorem repRows_row {e : Nat} : ∀ {xs : List (List C)} {vs : List Value} {F : Fp} {i : Nat} {r : List C}, repRows w N e xs vs F → xs[i]? = some r →
    ∃ F1, (∀ b, F1 b ≤ F b) ∧ r.length = e ∧ repRow w N r ((vs.drop (i * e)).take e) F1 ∧ i * e + e ≤ vs.length
  | [], _, _, _, _, _, hi => by simp at hi
  | r0 :: rs, _, _, 0, r, h, hi => by
    simp only [repRows] at h
    obtain ⟨v1, v2, F1, F2, rfl, hl, rfl, h1, h2⟩ := h
    simp only [List.getElem?_cons_zero, Option.some.injEq] at hi
    subst hi
    have hlen := repRow_len h1
    refine ⟨F1, fun b => by simp only [add]; omega, hl, ?_, by simp only [List.length_append]; omega⟩
    have : ((v1 ++ v2).drop (0 * e)).take e = v1 := by
      rw [Nat.zero_mul, List.drop_zero, ← hl, ← hlen, List.take_left']; rfl
    rw [this]; exact h1
  | r0 :: rs, _, _, i + 1, r, h, hi => by
    simp only [repRows] at h
    obtain ⟨v1, v2, F1, F2, rfl, hl, rfl, h1, h2⟩ := h
    simp only [List.getElem?_cons_succ] at hi
    obtain ⟨G, hG, hre, hrow, hle⟩ := repRows_row h2 hi
    have hlen := repRow_len h1
    refine ⟨G, fun b => by have := hG b; simp only [add]; omega, hre, ?_, by simp only [List.length_append, Nat.add_mul, Nat.one_mul]; omega⟩
    have : ((v1 ++ v2).drop ((i + 1) * e)).take e = (v2.drop (i * e)).take e := by
      have hidx : (i + 1) * e = v1.length + i * e := by rw [hlen, hl, Nat.add_mul, Nat.one_mul]; omega
      rw [hidx, List.drop_length_add_append]
    rw [this]; exact hrow
theorem repRow_drop : ∀ {cs : List C} {vs : List Value} (n : Nat) {F : Fp}, repRow w N cs vs F → ∃ F', (∀ b, F' b ≤ F b) ∧ repRow w N (cs.drop n) (vs.drop n) F'
  | cs, vs, 0, F, h => ⟨F, fun _ => Nat.le_refl _, by simpa using h⟩
  | [], vs, n + 1, F, h => by
    simp only [repRow] at h
    obtain ⟨rfl, rfl⟩ := h
    exact ⟨fz, fun _ => Nat.le_refl _, by simp [repRow]⟩
  | c :: cs, _, n + 1, _, h => by
    simp only [repRow] at h
    obtain ⟨v, vs', F1, F2, rfl, rfl, h1, h2⟩ := h
    obtain ⟨F', hle, h'⟩ := repRow_drop n h2
    exact ⟨F', fun b => by have := hle b; simp only [add]; omega, by simpa using h'⟩
theorem repRow_take : ∀ {cs : List C} {vs : List Value} (n : Nat) {F : Fp}, repRow w N cs vs F → ∃ F', (∀ b, F' b ≤ F b) ∧ repRow w N (cs.take n) (vs.take n) F'
  | cs, vs, 0, F, h => ⟨fz, fun _ => Nat.zero_le _, by simp [repRow]⟩
  | [], vs, n + 1, F, h => by
    simp only [repRow] at h
    obtain ⟨rfl, rfl⟩ := h
    exact ⟨fz, fun _ => Nat.le_refl _, by simp [repRow]⟩
  | c :: cs, _, n + 1, _, h => by
    simp only [repRow] at h
    obtain ⟨v, vs', F1, F2, rfl, rfl, h1, h2⟩ := h
    obtain ⟨F', hle, h'⟩ := repRow_take n h2
    refine ⟨add F1 F', fun b => by have := hle b; simp only [add]; omega, ?_⟩
    simp only [List.take_succ_cons, repRow]
    exact ⟨v, _, F1, F', rfl, rfl, h1, h'⟩
theorem repRows_drop {e : Nat} : ∀ {xs : List (List C)} {vs : List Value} (n : Nat) {F : Fp}, repRows w N e xs vs F → ∃ F', (∀ b, F' b ≤ F b) ∧ repRows w N e (xs.drop n) (vs.drop (n * e)) F'
  | xs, vs, 0, F, h => ⟨F, fun _ => Nat.le_refl _, by simpa using h⟩
  | [], vs, n + 1, F, h => by
    simp only [repRows] at h
    obtain ⟨rfl, rfl⟩ := h
    exact ⟨fz, fun _ => Nat.le_refl _, by simp [repRows]⟩
  | r :: rs, _, n + 1, _, h => by
    simp only [repRows] at h
    obtain ⟨v1, v2, F1, F2, rfl, hl, rfl, h1, h2⟩ := h
    obtain ⟨F', hle, h'⟩ := repRows_drop n h2
    have hlen := repRow_len h1
    have hidx : (n + 1) * e = v1.length + n * e := by rw [hlen, hl, Nat.add_mul, Nat.one_mul]; omega
    refine ⟨F', fun b => by have := hle b; simp only [add]; omega, ?_⟩
    rw [hidx, List.drop_length_add_append]
    simpa using h'
theorem repRows_take {e : Nat} : ∀ {xs : List (List C)} {vs : List Value} (n : Nat) {F : Fp}, repRows w N e xs vs F → ∃ F', (∀ b, F' b ≤ F b) ∧ repRows w N e (xs.take n) (vs.take (n * e)) F'
  | xs, vs, 0, F, h => ⟨fz, fun _ => Nat.zero_le _, by simp [repRows]⟩
  | [], vs, n + 1, F, h => by
    simp only [repRows] at h
    obtain ⟨rfl, rfl⟩ := h
    exact ⟨fz, fun _ => Nat.le_refl _, by simp [repRows]⟩
  | r :: rs, _, n + 1, _, h => by
    simp only [repRows] at h
    obtain ⟨v1, v2, F1, F2, rfl, hl, rfl, h1, h2⟩ := h
    obtain ⟨F', hle, h'⟩ := repRows_take n h2
    have hlen := repRow_len h1
    have hidx : (n + 1) * e = v1.length + n * e := by rw [hlen, hl, Nat.add_mul, Nat.one_mul]; omega
    refine ⟨add F1 F', fun b => by have := hle b; simp only [add]; omega, ?_⟩
    simp only [List.take_succ_cons, repRows]
    exact ⟨v1, v2.take (n * e), F1, F', by rw [hidx, List.take_length_add_append], hl, rfl, h1, h'⟩
end
end Go.Am
namespace Go.Am
abbrev Path := List (Nat × Nat × Nat)
def nestC : C → Option Obj
  | .ar true t e ys => if t < 1000000000 then some ⟨t, e, ys⟩ else none
  | .op t e cs => some ⟨t + 1000000000, e, [cs]⟩
  | _ => none
def nestS : C → List (List C) → C
  | .ar true t e _, ys => .ar true t e ys
  | .op t e _, [ys] => .op t e ys
  | c, _ => c
theorem nestC_ar {t e : Nat} {ys : List (List C)} {o : Obj} (h : nestC (.ar true t e ys) = some o) : t < 1000000000 ∧ o = ⟨t, e, ys⟩ := by
  simp only [nestC] at h
  split at h
  · rename_i ht; injection h with h; exact ⟨ht, h.symm⟩
  · cases h
def getA (t e : Nat) (xs : List (List C)) : Path → Option Obj
  | [] => some ⟨t, e, xs⟩
  | (e', i, f) :: r =>
    if e' = e then
      match xs[i]? with
      | some row =>
        match row[f]? with
        | some c => match nestC c with
          | some o => getA o.t o.e o.xs r
          | none => none
        | none => none
      | none => none
    else none
def setA (xs : List (List C)) : Path → List (List C) → List (List C)
  | [], ys => ys
  | (_, i, f) :: r, ys =>
    match xs[i]? with
    | some row =>
      match row[f]? with
      | some c => match nestC c with
        | some o => xs.set i (row.set f (nestS c (setA o.xs r ys)))
        | none => xs
      | none => xs
    | none => xs
theorem setA_length (xs : List (List C)) (st : Path) (ys : List (List C)) (h : st ≠ []) : (setA xs st ys).length = xs.length := by
  cases st with
  | nil => exact absurd rfl h
  | cons s r =>
    obtain ⟨e, i, f⟩ := s
    simp only [setA]
    split
    · split
      · split <;> simp
      · rfl
    · rfl
section
variable {w : World} {N : Nat → Prop} {lc : Loc}
theorem cell_take {cur : Array Value} {n k : Nat} {v : Value} (h : (cur.toList.take n)[k]? = some v) : cur[k]? = some v := by
  rw [List.getElem?_take] at h
  split at h
  · simpa using h
  · cases h
theorem cell_of_blk {b k : Nat} {cur : Array Value} {t : Nat} {fr : Nat × Nat} (h : w.heap[b]? = some (.cells cur t fr)) : w.cell? ⟨b, k, none⟩ = cur[k]? := by
  simp [World.cell?, h]
theorem nest_ok {c : C} {o2 : Obj} {v : Value} {G1 : Fp} {b cap e i f : Nat} (hn : nestC c = some o2) (hrep : repC w N c v G1) (hcell : w.cell? ⟨b, i * e + f, none⟩ = some v) :
    v.oneCell' = true ∧ ∃ l2, repO w N l2 o2.t o2.e o2.xs G1 ∧ (∀ r, resF w (some (b, cap)) ((e, i, f) :: r) = resF w l2 r) ∧
      (∀ (w' : World) (N' : Nat → Prop) (zs : List (List C)) (G : Fp), zs.length = o2.xs.length → repO w' N' l2 o2.t o2.e zs G → repC w' N' (nestS c zs) v G) := by
  cases c with
  | ar own t2 e2 ys =>
    cases own with
    | false => cases hn
    | true =>
      obtain ⟨ht, rfl⟩ := nestC_ar hn
      rcases repC_arT hrep with ⟨rfl, a2, rfl⟩ | ⟨b2, cap2, cur2, G', hp2, rfl, hb2, hl2, hc2, hs2, hr2, rfl⟩
      · refine ⟨rfl, none, .inl ⟨rfl, rfl⟩, fun r => by rw [resF_zero hcell, resF_none], fun w' N' zs G hz h => ?_⟩
        have hz0 : zs = [] := List.eq_nil_of_length_eq_zero (by simpa using hz)
        subst hz0
        rcases h with ⟨_, _, rfl⟩ | ⟨b3, cap3, cur3, G3, h, _⟩
        · simp only [nestS, repC]
          exact .inl ⟨by trivial, a2, rfl⟩
        · cases h
      · refine ⟨rfl, some (b2, cap2), .inr ⟨b2, cap2, cur2, G', rfl, by rw [tyOf_lt ht]; exact hb2, hl2, capOk_lt ht hc2, hs2, hr2, rfl⟩, fun r => ?_, fun w' N' zs G hz h => ?_⟩
        · simp only [resF, hcell]
          rw [if_neg (by omega)]
        · rcases h with ⟨h, _⟩ | ⟨b3, cap3, cur3, G3, h, hb3, hl3, hc3, hs3, hr3, rfl⟩
          · cases h
          · injection h with h; injection h with h1 h2; subst h1; subst h2
            rw [tyOf_lt ht] at hb3
            simp only [nestS, repC]
            exact .inr ⟨b2, cap2, cur3, G3, by rw [hz], hb3, hl3, hc3.1, hs3, hr3, rfl⟩
  | op t2 e2 cs =>
    injection hn with hn
    subst hn
    simp only [repC] at hrep
    obtain ⟨b2, cur2, G', rfl, hb2, hl2, hs2, hr2, rfl⟩ := hrep
    refine ⟨rfl, some (b2, 1), .inr ⟨b2, 1, cur2, G', rfl, by rw [tyOf_add]; exact hb2, by simp, ⟨by simp [maxLen], fun _ => rfl⟩, by simpa using hs2, ?_, rfl⟩, fun r => ?_, fun w' N' zs G hz h => ?_⟩
    · simp only [List.length_singleton, Nat.one_mul, repRows]
      exact ⟨cur2.toList.take e2, [], G', fz, by simp, hl2, (add_fz _).symm, hr2, rfl, rfl⟩
    · simp only [resF, hcell]
    · match zs, hz with
      | [z], _ =>
        rcases h with ⟨h, _⟩ | ⟨b3, cap3, cur3, G3, h, hb3, hl3, hc3, hs3, hr3, rfl⟩
        · cases h
        · injection h with h; injection h with h1 h2; subst h1; subst h2
          rw [tyOf_add] at hb3
          simp only [Nat.one_mul] at hs3
          simp only [List.length_singleton, Nat.one_mul, repRows] at hr3
          obtain ⟨v1, v2, F1, F2, hv, hl, rfl, hr, rfl, rfl⟩ := hr3
          rw [List.append_nil] at hv
          subst hv
          simp only [nestS, repC]
          exact ⟨b2, cur3, F1, rfl, hb3, hl, hs3, hr, by rw [add_fz]⟩
  | _ => cases hn
theorem repO_focusE : ∀ (st : Path) {l : Option (Nat × Nat)} {t e : Nat} {xs : List (List C)} {F : Fp} {o : Obj}, repO w N l t e xs F → getA t e xs st = some o →
    ∃ l' F0 F1, resF w l st = l' ∧ repO w N l' o.t o.e o.xs F0 ∧ F = add F0 F1 ∧
      ∀ (w' : World) (N' : Nat → Prop) (ys : List (List C)) (F0' : Fp), ys.length = o.xs.length → (∀ b, 1 ≤ F1 b ∨ N b → w'.heap[b]? = w.heap[b]?) → (∀ b, N b → N' b) →
        repO w' N' l' o.t o.e ys F0' → repO w' N' l t e (setA xs st ys) (add F0' F1)
  | [], l, t, e, xs, F, o, h, hg => by
    simp only [getA, Option.some.injEq] at hg
    subst hg
    exact ⟨l, F, fz, rfl, h, (add_fz F).symm, fun w' N' ys F0' _ _ _ h' => by rw [add_fz]; exact h'⟩
  | (e', i, f) :: r, l, t, e, xs, F, o, h, hg => by
    simp only [getA] at hg
    split at hg
    case isFalse => cases hg
    rename_i he
    subst he
    cases hrow : xs[i]? with
    | none => rw [hrow] at hg; simp at hg
    | some row =>
      rw [hrow] at hg
      simp only at hg
      cases hcell : row[f]? with
      | none => rw [hcell] at hg; simp at hg
      | some c =>
        rw [hcell] at hg
        simp only at hg
        cases hn : nestC c with
        | none => rw [hn] at hg; simp at hg
        | some o2 =>
          rw [hn] at hg
          simp only at hg
          rcases h with ⟨_, rfl, _⟩ | ⟨b, cap, cur, F', rfl, hb, hl, hc, hs, hr, rfl⟩
          · simp at hrow
          · obtain ⟨v, G1, G2, hv, rfl, hrep, hfe, hset⟩ := repRows_cell hr hrow hcell
            have hcv : cur[i * e' + f]? = some v := cell_take hv
            have hcell' : w.cell? ⟨b, i * e' + f, none⟩ = some v := by rw [cell_of_blk hb]; exact hcv
            obtain ⟨_, l2, hO, hres, hback⟩ := nest_ok (cap := cap) hn hrep hcell'
            obtain ⟨l', F0, F1, hl', hO', rfl, hrep'⟩ := repO_focusE r hO hg
            refine ⟨l', F0, add F1 (add (Am.one b) G2), ?_, hO', ?_, fun w' N' zs F0' hz hk hN h' => ?_⟩
            · exact (hres r).trans hl'
            · funext x; simp only [add]; omega
            · have h2 := hrep' w' N' zs F0' hz (fun x hx => hk x (hx.imp_left fun h => by simp only [add]; omega)) hN h'
              have hlen2 : (setA o2.xs r zs).length = o2.xs.length := by
                cases r with
                | nil =>
                  simp only [getA, Option.some.injEq] at hg
                  subst hg
                  simpa [setA] using hz
                | cons s r => exact setA_length _ _ _ (by simp)
              have h3 := hback w' N' (setA o2.xs r zs) (add F0' F1) hlen2 h2
              have h4 := hset w' N' (nestS c (setA o2.xs r zs)) v (add F0' F1) (fun x hx => hk x (hx.imp_left fun h => by simp only [add]; omega)) hN h3
              have hvs : (cur.toList.take (xs.length * e')).set (i * e' + f) v = cur.toList.take (xs.length * e') := by
                apply List.ext_getElem?
                intro k
                rw [List.getElem?_set]
                split
                · rename_i hk'
                  subst hk'
                  split
                  · exact hv.symm
                  · rename_i hn
                    rw [List.getElem?_eq_none (by omega)]
                · rfl
              rw [hvs] at h4
              simp only [setA, hrow, hcell, hn]
              refine .inr ⟨b, cap, cur, add (add F0' F1) G2, rfl, ?_, by simpa using hl, hc, hs, ?_, ?_⟩
              · rw [hk b (.inl (by simp [add, Am.one]; omega))]; exact hb
              · rw [List.length_set]; exact h4
              · funext x; simp only [add]; omega
end
section
variable {w w' : World} {N N' : Nat → Prop} {lc lc' : Loc}
theorem repO_focus (st : Path) {l : Option (Nat × Nat)} {t e : Nat} {xs : List (List C)} {F : Fp} {o : Obj} (h : repO w N l t e xs F) (hg : getA t e xs st = some o) :
    ∃ l' F0 F1, (l' = none ∨ resF w l st = l') ∧ repO w N l' o.t o.e o.xs F0 ∧ F = add F0 F1 ∧
      ∀ (w' : World) (N' : Nat → Prop) (ys : List (List C)) (F0' : Fp), ys.length = o.xs.length → (∀ b, 1 ≤ F1 b ∨ N b → w'.heap[b]? = w.heap[b]?) → (∀ b, N b → N' b) →
        repO w' N' l' o.t o.e ys F0' → repO w' N' l t e (setA xs st ys) (add F0' F1) :=
  let ⟨l', F0, F1, h1, h2⟩ := repO_focusE st h hg
  ⟨l', F0, F1, .inr h1, h2⟩
theorem repO_keep {l : Option (Nat × Nat)} {t e : Nat} {xs : List (List C)} {F : Fp} (hk : ∀ b, 1 ≤ F b ∨ N b → w'.heap[b]? = w.heap[b]?) (hN : ∀ b, N b → N' b) (h : repO w N l t e xs F) :
    repO w' N' l t e xs F := by
  rcases h with h | ⟨b, cap, cur, F', hl, hb, hn, hc, hs, hr, rfl⟩
  · exact .inl h
  · exact .inr ⟨b, cap, cur, F', hl, (hk b (.inl (by simp [add, Am.one]))).trans hb, hn, hc, hs, repRows_keep e xs _ F' (fun x hx => hk x (hx.imp_left fun h => by simp only [add]; omega)) hN hr, rfl⟩
theorem repOb_keep : ∀ (ob : List (Nat × Obj)) (F : Fp), (∀ b, 1 ≤ F b ∨ N b → w'.heap[b]? = w.heap[b]?) → (∀ b, N b → N' b) → (∀ id o, (id, o) ∈ ob → lc' id = lc id) →
    repOb w N lc ob F → repOb w' N' lc' ob F
  | [], _, _, _, _, h => h
  | (id, o) :: r, F, hk, hN, hl, h => by
    simp only [repOb] at h ⊢
    obtain ⟨F1, F2, rfl, h1, h2⟩ := h
    refine ⟨F1, F2, rfl, ?_, repOb_keep r F2 (fun b hb => hk b (hb.imp_left fun h => by simp only [add]; omega)) hN (fun i o' hm => hl i o' (List.mem_cons_of_mem _ hm)) h2⟩
    rw [hl id o (List.mem_cons_self ..)]
    exact repO_keep (fun b hb => hk b (hb.imp_left fun h => by simp only [add]; omega)) hN h1
theorem repOb_del (d : Nat) : ∀ (r : List (Nat × Obj)) (F2 : Fp), repOb w N lc r F2 → ∃ G, (∀ b, G b ≤ F2 b) ∧ repOb w N lc (del r d) G
  | [], F2, h => ⟨F2, fun _ => Nat.le_refl _, h⟩
  | (k', y) :: r, F2, h => by
    simp only [repOb] at h
    obtain ⟨G1, G2, rfl, g1, g2⟩ := h
    obtain ⟨G, hG, hr⟩ := repOb_del d r G2 g2
    simp only [del]
    split
    · exact ⟨G, fun b => by have := hG b; simp only [add]; omega, hr⟩
    · simp only [repOb]
      exact ⟨add G1 G, fun b => by have := hG b; simp only [add]; omega, G1, G, rfl, g1, hr⟩
theorem repOb_look : ∀ (ob : List (Nat × Obj)) (F : Fp) (d : Nat) (o : Obj), look ob d = some o → repOb w N lc ob F →
    ∃ F1 F2, (∀ b, F1 b + F2 b ≤ F b) ∧ repO w N (lc d) o.t o.e o.xs F1 ∧ repOb w N lc (del ob d) F2
  | [], _, _, _, hl, _ => by simp [look] at hl
  | (k, x) :: r, F, d, o, hl, h => by
    simp only [repOb] at h
    obtain ⟨F1, F2, rfl, h1, h2⟩ := h
    simp only [look] at hl
    split at hl
    · rename_i hkd
      subst hkd
      injection hl with hl
      subst hl
      obtain ⟨G, hG, hr⟩ := repOb_del k r F2 h2
      refine ⟨F1, G, fun b => by have := hG b; simp only [add]; omega, h1, ?_⟩
      simp only [del, if_true]
      exact hr
    · rename_i hkd
      obtain ⟨G1, G2, hG, g1, g2⟩ := repOb_look r F2 d o hl h2
      refine ⟨G1, add F1 G2, fun b => by have := hG b; simp only [add]; omega, g1, ?_⟩
      simp only [del, if_neg hkd, repOb]
      exact ⟨F1, G2, rfl, h1, g2⟩
theorem mem_del {α : Type} (d : Nat) : ∀ r : List (Nat × α), ∀ k a, (k, a) ∈ del r d → k ≠ d
  | [], _, _, h => by simp [del] at h
  | (k', y) :: r, k, a, h => by
    simp only [del] at h
    split at h
    · exact mem_del d r k a h
    · rename_i hk
      rcases List.mem_cons.1 h with h | h
      · injection h with h1 _; subst h1; exact hk
      · exact mem_del d r k a h
theorem repOb_put {d : Nat} {o : Obj} {r : List (Nat × Obj)} {F1 F2 : Fp} (h1 : repO w N (lc d) o.t o.e o.xs F1) (h2 : repOb w N lc r F2) :
    ∃ F', (∀ b, F' b ≤ F1 b + F2 b) ∧ repOb w N lc (put r d o) F' := by
  obtain ⟨G, hG, hr⟩ := repOb_del d r F2 h2
  refine ⟨add F1 G, fun b => by have := hG b; simp only [add]; omega, ?_⟩
  simp only [put, repOb]
  exact ⟨F1, G, rfl, h1, hr⟩
theorem repOb_name {d : Nat} {l : Option (Nat × Nat)} : ∀ (r : List (Nat × Obj)) (F : Fp), (∀ k a, (k, a) ∈ r → k ≠ d) → repOb w N lc r F → repOb w N (fun i => if i = d then l else lc i) r F
  | [], _, _, h => h
  | (k, a) :: r, F, hd, h => by
    simp only [repOb] at h ⊢
    obtain ⟨F1, F2, rfl, h1, h2⟩ := h
    refine ⟨F1, F2, rfl, ?_, repOb_name r F2 (fun k' a' hm => hd k' a' (List.mem_cons_of_mem _ hm)) h2⟩
    rw [if_neg (hd k a (List.mem_cons_self ..))]
    exact h1
end
end Go.Am
