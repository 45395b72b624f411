/- FRAMEWORK, text 5: laws of lists and marks, and what an argument reads as. Proved once, for every program; no condition. -/
import Derived.Test.YthpgfalifhpcfaaGreatAm4
import Derived.ProofKit
set_option linter.unusedVariables false
set_option linter.unusedSimpArgs false
namespace Go.Am
/-! Laws of lists, arrays at paths -/
theorem take_step {α : Type} {xs ys : List α} {i : Nat} (h1 : i < xs.length) (h2 : i < ys.length) : xs.take (i + 1) = ys.take (i + 1) ↔ xs.take i = ys.take i ∧ xs[i] = ys[i] := by
  rw [List.take_succ_eq_append_getElem h1, List.take_succ_eq_append_getElem h2]
  constructor
  · intro h
    have := List.append_inj h (by simp; omega)
    exact ⟨this.1, by simpa using this.2⟩
  · rintro ⟨h, h'⟩; rw [h, h']
/-- The rows of a copy under way. -/
def part {α : Type} (r : α → List C) (z : List C) (xs : List α) (i : Nat) : List (List C) := (xs.take i).map r ++ List.replicate (xs.length - i) z
theorem part_len {α : Type} {r : α → List C} {z : List C} {xs : List α} {i : Nat} (h : i ≤ xs.length) : (part r z xs i).length = xs.length := by
  simp [part]; omega
theorem part_get {α : Type} {r : α → List C} {z : List C} {xs : List α} {i : Nat} (h : i < xs.length) : (part r z xs i)[i]? = some z := by
  rw [part, List.getElem?_append_right (by simp; omega)]
  simp [List.getElem?_replicate]; omega
theorem part_set {α : Type} {r : α → List C} {z : List C} {xs : List α} {i : Nat} (h : i < xs.length) : (part r z xs i).set i (r xs[i]) = part r z xs (i + 1) := by
  apply List.ext_getElem?
  intro k
  simp only [part, List.getElem?_set, List.getElem?_append, List.getElem?_map, List.length_map, List.length_take, List.length_append, List.length_replicate, List.getElem?_take, List.getElem?_replicate]
  rcases Nat.lt_trichotomy k i with hk | hk | hk
  · simp [show ¬ i = k by omega, show k < min i xs.length by omega, show k < min (i + 1) xs.length by omega, hk, show k < i + 1 by omega]
  · subst hk
    simp [show k < min k xs.length + (xs.length - k) by omega, show k < min (k + 1) xs.length by omega, h]
  · have e1 : min i xs.length = i := by omega
    have e2 : min (i + 1) xs.length = i + 1 := by omega
    simp only [e1, e2, show ¬ i = k by omega, if_false, show ¬ k < i by omega, show ¬ k < i + 1 by omega]
    by_cases h3 : k < xs.length
    · rw [if_pos (by omega), if_pos (by omega)]
    · rw [if_neg (by omega), if_neg (by omega)]
theorem part_all {α : Type} {r : α → List C} {z : List C} {xs : List α} : part r z xs xs.length = xs.map r := by simp [part]
theorem part_zero {α : Type} {r : α → List C} {z : List C} {xs : List α} : part r z xs 0 = List.replicate xs.length z := by simp [part]
theorem getA_setA : ∀ (st : Path) (t e : Nat) (xs ys : List (List C)) (o : Obj), getA t e xs st = some o → getA t e (setA xs st ys) st = some ⟨o.t, o.e, ys⟩
  | [], t, e, xs, ys, o, h => by
    simp only [getA, Option.some.injEq] at h
    subst h
    simp [getA, setA]
  | (e', i, f) :: r, t, e, xs, ys, o, h => by
    simp only [getA] at h
    split at h
    case isFalse => cases h
    rename_i he
    cases hrow : xs[i]? with
    | none => rw [hrow] at h; simp at h
    | some row =>
      rw [hrow] at h
      simp only at h
      cases hc : row[f]? with
      | none => rw [hc] at h; simp at h
      | some c =>
        rw [hc] at h
        cases c with
        | ar own t2 e2 zs =>
          cases own with
          | false => simp at h
          | true =>
            simp only at h
            have hi : i < xs.length := (List.getElem?_eq_some_iff.1 hrow).1
            have hf : f < row.length := (List.getElem?_eq_some_iff.1 hc).1
            simp only [setA, hrow, hc, getA, he, if_true]
            rw [List.getElem?_set_self hi]
            simp only
            rw [List.getElem?_set_self hf]
            simp only
            exact getA_setA r t2 e2 zs ys o h
        | _ => simp at h
theorem setA_setA : ∀ (st : Path) (xs ys zs : List (List C)) (t e : Nat) (o : Obj), getA t e xs st = some o → setA (setA xs st ys) st zs = setA xs st zs
  | [], _, _, _, _, _, _, _ => rfl
  | (e', i, f) :: r, xs, ys, zs, t, e, o, h => by
    simp only [getA] at h
    split at h
    case isFalse => cases h
    cases hrow : xs[i]? with
    | none => rw [hrow] at h; simp at h
    | some row =>
      rw [hrow] at h
      simp only at h
      cases hc : row[f]? with
      | none => rw [hc] at h; simp at h
      | some c =>
        rw [hc] at h
        cases c with
        | ar own t2 e2 us =>
          cases own with
          | false => simp at h
          | true =>
            simp only at h
            have hi : i < xs.length := (List.getElem?_eq_some_iff.1 hrow).1
            have hf : f < row.length := (List.getElem?_eq_some_iff.1 hc).1
            simp only [setA, hrow, hc]
            rw [List.getElem?_set_self hi]
            simp only
            rw [List.getElem?_set_self hf]
            simp only [List.set_set]
            rw [setA_setA r us ys zs t2 e2 o h]
        | _ => simp at h
theorem setA_self : ∀ (st : Path) (t e : Nat) (xs : List (List C)) (o : Obj), getA t e xs st = some o → setA xs st o.xs = xs
  | [], t, e, xs, o, h => by
    simp only [getA, Option.some.injEq] at h
    subst h
    rfl
  | (e', i, f) :: r, t, e, xs, o, h => by
    simp only [getA] at h
    split at h
    case isFalse => cases h
    cases hrow : xs[i]? with
    | none => rw [hrow] at h; simp at h
    | some row =>
      rw [hrow] at h
      simp only at h
      cases hc : row[f]? with
      | none => rw [hc] at h; simp at h
      | some c =>
        rw [hc] at h
        cases c with
        | ar own t2 e2 us =>
          cases own with
          | false => simp at h
          | true =>
            simp only at h
            obtain ⟨hi, hri⟩ := List.getElem?_eq_some_iff.1 hrow
            obtain ⟨hf, hcf⟩ := List.getElem?_eq_some_iff.1 hc
            simp only [setA, hrow, hc]
            rw [setA_self r t2 e2 us o h, ← hcf, List.set_getElem_self, ← hri, List.set_getElem_self]
        | _ => simp at h

theorem getA_app : ∀ (st p : Path) (t e : Nat) (xs : List (List C)), getA t e xs (st ++ p) = (getA t e xs st).bind fun o => getA o.t o.e o.xs p
  | [], p, t, e, xs => by simp [getA]
  | (e', i, f) :: r, p, t, e, xs => by
    simp only [List.cons_append, getA]
    split
    case isFalse => rfl
    cases hrow : xs[i]? with
    | none => rfl
    | some row =>
      simp only
      cases hc : row[f]? with
      | none => rfl
      | some c =>
        cases c with
        | ar own t2 e2 ys =>
          cases own with
          | false => rfl
          | true => exact getA_app r p t2 e2 ys
        | _ => rfl
theorem setA_app : ∀ (st p : Path) (t e : Nat) (xs : List (List C)) (zs : List (List C)) (o : Obj), getA t e xs st = some o → setA xs (st ++ p) zs = setA xs st (setA o.xs p zs)
  | [], p, t, e, xs, zs, o, h => by
    simp only [getA, Option.some.injEq] at h
    subst h
    rfl
  | (e', i, f) :: r, p, t, e, xs, zs, o, h => by
    simp only [getA] at h
    split at h
    case isFalse => cases h
    cases hrow : xs[i]? with
    | none => rw [hrow] at h; simp at h
    | some row =>
      rw [hrow] at h
      simp only at h
      cases hc : row[f]? with
      | none => rw [hc] at h; simp at h
      | some c =>
        rw [hc] at h
        cases c with
        | ar own t2 e2 us =>
          cases own with
          | false => simp at h
          | true =>
            simp only at h
            simp only [List.cons_append, setA, hrow, hc]
            rw [setA_app r p t2 e2 us zs o h]
        | _ => simp at h
@[simp] theorem take_map_len {α β : Type} (f : α → β) (xs : List α) : (xs.map f).take xs.length = xs.map f := List.take_of_length_le (by simp)
theorem shrRows_of {α : Type} {r s : α → List C} (h : ∀ a, shrRow (r a) = s a) (xs : List α) : shrRows (xs.map r) = xs.map s := by
  rw [shrRows_map, List.map_map]
  exact List.map_congr_left fun a _ => h a
theorem noSh_of {α : Type} {r : α → List C} (h : ∀ a, noShRow (r a) = true) : ∀ xs : List α, noShRows (xs.map r) = true
  | [] => rfl
  | x :: xs => by simp only [List.map_cons, noShRows, h x, noSh_of h xs, Bool.and_self]
@[simp] theorem shr_rI (n : Int) : shrRow (rI n) = rI n := rfl
@[simp] theorem shrs_rI (xs : List Int) : shrRows (xs.map rI) = xs.map rI := shrRows_of shr_rI xs
@[simp] theorem noSh_rI (xs : List Int) : noShRows (xs.map rI) = true := noSh_of (fun _ => rfl) xs

/-! ### Weights, marks -/
def wL {α : Type} (w : α → Nat) : List α → Nat
  | [] => 0
  | x :: xs => 1 + w x + wL w xs
theorem wL_append {α : Type} (w : α → Nat) : ∀ xs ys : List α, wL w (xs ++ ys) = wL w xs + wL w ys
  | [], ys => by simp [wL]
  | x :: xs, ys => by simp only [List.cons_append, wL, wL_append w xs ys]; omega
theorem wL_len {α : Type} (w : α → Nat) : ∀ xs : List α, xs.length ≤ wL w xs
  | [] => Nat.le_refl _
  | x :: xs => by have := wL_len w xs; simp only [List.length_cons, wL]; omega
theorem wL_get {α : Type} (w : α → Nat) : ∀ (xs : List α) (i : Nat) (h : i < xs.length), w xs[i] + xs.length ≤ wL w xs
  | x :: xs, 0, _ => by have := wL_len w xs; simp only [List.getElem_cons_zero, List.length_cons, wL]; omega
  | x :: xs, i + 1, h => by
    have := wL_get w xs i (by simpa using h)
    simp only [List.getElem_cons_succ, List.length_cons, wL]; omega
theorem wL_take {α : Type} (w : α → Nat) {xs : List α} {i : Nat} (h : i < xs.length) : wL w (xs.take (i + 1)) = wL w (xs.take i) + 1 + w xs[i] := by
  rw [List.take_succ_eq_append_getElem h, wL_append]
  simp [wL]; omega
theorem wL_take_le {α : Type} (w : α → Nat) (xs : List α) (i : Nat) : wL w (xs.take i) ≤ wL w xs := by
  have := wL_append w (xs.take i) (xs.drop i)
  rw [List.take_append_drop] at this
  omega
def w0 : Int → Nat := fun _ => 0
theorem wL_w0 : ∀ xs : List Int, wL w0 xs = xs.length
  | [] => rfl
  | x :: xs => by simp only [wL, w0, wL_w0 xs, List.length_cons]; omega

/-- Lengths that memory can have. -/
def lL {α : Type} (l : α → Prop) (xs : List α) : Prop := xs.length < 2 ^ 63 ∧ ∀ (i : Nat) (h : i < xs.length), l xs[i]
def l0 : Int → Prop := fun n => -9223372036854775808 ≤ n ∧ n < 9223372036854775808
/-- What is left. -/
def lft (left : Int) (w : Nat) : Int := if left - w < 0 then -1 else left - w
theorem lft_neg {left : Int} {w : Nat} (h : left < w) : lft left w = -1 := by unfold lft; rw [if_pos (by omega)]
theorem lft_pos {left : Int} {w : Nat} (h : w ≤ left) : lft left w = left - w := by unfold lft; rw [if_neg (by omega)]

/-- The digits of a number. -/
def digsF : Nat → Nat → List UInt8
  | 0, _ => []
  | f + 1, n => if n = 0 then [] else digsF f (n / 10) ++ [UInt8.ofNat (48 + n % 10)]
def digs (n : Nat) : List UInt8 := digsF n n
/-- The text of a mark. -/
def mtx (k : Int) : ByteArray := if k ≤ 0 then ⟨#[109, 48]⟩ else ⟨(109 :: digs k.toNat).toArray⟩

/-- A way to mark: what is written, how many marks. -/
structure Mk (α : Type) where
  wr : α → Int → α
  n : α → Nat
def Mk.nL {α : Type} (M : Mk α) : List α → Nat
  | [] => 0
  | x :: xs => M.n x + M.nL xs
def Mk.mkL {α : Type} (M : Mk α) : List α → Int → List α
  | [], _ => []
  | x :: xs, k => M.wr x k :: M.mkL xs (k + M.n x)
def Mk.L {α : Type} (M : Mk α) : Mk (List α) := ⟨M.mkL, M.nL⟩
def mI : Mk Int := ⟨fun _ k => k, fun _ => 1⟩
@[simp] theorem mI_wr (a k : Int) : mI.wr a k = k := rfl
@[simp] theorem mI_n1 (a : Int) : mI.n a = 1 := rfl
theorem mI_n : ∀ xs : List Int, mI.nL xs = xs.length
  | [] => rfl
  | x :: xs => by rw [Mk.nL, mI_n xs, List.length_cons, Nat.add_comm]; rfl
section
variable {α : Type} {M : Mk α} {xs : List α} {k : Int} {i : Nat}
/-- Marked as far as i. -/
def Mk.upto (M : Mk α) (xs : List α) (k : Int) (i : Nat) : List α := M.mkL (xs.take i) k ++ xs.drop i
def Mk.pos (M : Mk α) (xs : List α) (k : Int) (i : Nat) : Int := k + M.nL (xs.take i)
@[simp] theorem Mk.mkL_len (M : Mk α) : ∀ (xs : List α) (k : Int), (M.mkL xs k).length = xs.length
  | [], _ => rfl
  | x :: xs, k => by simp [Mk.mkL, Mk.mkL_len M xs]
@[simp] theorem take_map_mk {β : Type} (f : α → β) (M : Mk α) (xs : List α) (k : Int) : ((M.mkL xs k).map f).take xs.length = (M.mkL xs k).map f := List.take_of_length_le (by simp)
theorem Mk.mkL_append (M : Mk α) : ∀ (xs ys : List α) (k : Int), M.mkL (xs ++ ys) k = M.mkL xs k ++ M.mkL ys (k + M.nL xs)
  | [], ys, k => by simp [Mk.mkL, Mk.nL]
  | x :: xs, ys, k => by
    simp only [List.cons_append, Mk.mkL, Mk.nL, Mk.mkL_append M xs ys, List.cons.injEq, true_and]
    congr 2
    push_cast; omega
theorem Mk.nL_append (M : Mk α) : ∀ (xs ys : List α), M.nL (xs ++ ys) = M.nL xs + M.nL ys
  | [], ys => by simp [Mk.nL]
  | x :: xs, ys => by simp only [List.cons_append, Mk.nL, Mk.nL_append M xs ys]; omega
@[simp] theorem Mk.upto_len : (M.upto xs k i).length = xs.length := by simp [Mk.upto]; omega
theorem Mk.upto_get (h : i < xs.length) : (M.upto xs k i)[i]? = some xs[i] := by
  have e : (M.mkL (xs.take i) k).length = i := by simp; omega
  simp only [Mk.upto]
  rw [List.getElem?_append_right (by omega), e, List.getElem?_drop]
  simp [h]
theorem Mk.pos_step (h : i < xs.length) : M.pos xs k (i + 1) = M.pos xs k i + M.n xs[i] := by
  simp only [Mk.pos]
  rw [List.take_succ_eq_append_getElem h, Mk.nL_append]
  simp [Mk.nL]; omega
theorem Mk.upto_set (h : i < xs.length) : (M.upto xs k i).set i (M.wr xs[i] (M.pos xs k i)) = M.upto xs k (i + 1) := by
  have e : (M.mkL (xs.take i) k).length = i := by simp; omega
  simp only [Mk.upto]
  rw [List.set_append_right _ _ (by omega), e, Nat.sub_self, List.drop_eq_getElem_cons h, List.set_cons_zero, List.take_succ_eq_append_getElem h, Mk.mkL_append]
  simp [Mk.mkL, Mk.pos]
theorem Mk.upto_zero : M.upto xs k 0 = xs := by simp [Mk.upto, Mk.mkL]
theorem Mk.upto_all : M.upto xs k xs.length = M.mkL xs k := by simp [Mk.upto]
theorem Mk.pos_zero : M.pos xs k 0 = k := by simp [Mk.pos, Mk.nL]
theorem Mk.pos_all : M.pos xs k xs.length = k + M.nL xs := by simp [Mk.pos]
theorem Mk.pos_le (h : i ≤ xs.length) : M.pos xs k i ≤ k + M.nL xs := by
  have := Mk.nL_append M (xs.take i) (xs.drop i)
  rw [List.take_append_drop] at this
  simp only [Mk.pos]; omega
theorem Mk.pos_ge : k ≤ M.pos xs k i := by simp only [Mk.pos]; omega
theorem Mk.mkL_get : ∀ {xs : List α} {k : Int} {i : Nat} (h : i < xs.length), (M.mkL xs k)[i]? = some (M.wr xs[i] (M.pos xs k i))
  | x :: xs, k, 0, _ => by simp [Mk.mkL, Mk.pos, Mk.nL]
  | x :: xs, k, i + 1, h => by
    have := Mk.mkL_get (xs := xs) (k := k + M.n x) (i := i) (by simpa using h)
    simp only [Mk.mkL, List.getElem?_cons_succ, this, List.getElem_cons_succ, Mk.pos, List.take_succ_cons, Mk.nL]
    congr 2
    push_cast; omega
theorem Mk.mkL_at {xs : List α} {k : Int} {i : Nat} (h : i < xs.length) (h' : i < (M.mkL xs k).length) : (M.mkL xs k)[i] = M.wr xs[i] (M.pos xs k i) := by
  have := Mk.mkL_get (M := M) (k := k) h
  rw [List.getElem?_eq_getElem h'] at this
  exact Option.some.inj this
theorem Mk.upto_at {xs : List α} {k : Int} {i : Nat} (h : i < xs.length) (h' : i < (M.upto xs k i).length) : (M.upto xs k i)[i] = xs[i] := by
  have := Mk.upto_get (M := M) (k := k) h
  rw [List.getElem?_eq_getElem h'] at this
  exact Option.some.inj this
end

theorem gcal_F {P : Program} {f : Nat} {Kv : A → Prop} {b : Bool} {as : List A} {v : A} (h : CallsF P f as v) (hn : b = true → noShA v = true) (k : Kv v) : gcal P f Kv (some (b, as)) := ⟨v, h, hn, k⟩
/-- A call that is given what it owns. -/
theorem callOG_F {P : Program} {d : Option Nat} {f : Nat} {K : St → Prop} {b : Bool} {as : List A} {σ1 : St} {v : A} (h : CallsF P f as v) (hn : b = true → noShA v = true) (k : K (setT { tm := dropR deep σ1.tm, ob := σ1.ob } d v)) : callOG P d f K b as σ1 :=
  CallsA.mono h fun _ _ ⟨h1, h2⟩ => ⟨h1, by rw [h2]; exact hn, by rw [h2]; exact k⟩
theorem fnOk_of {P : Program} {fs : List Nat} (hF : FOK P fs) {f : Nat} (h : fs.contains f = true) : FnOk P f := by
  have h1 := FOK_mem hF (by simpa using h : f ∈ fs)
  unfold FOK1 at h1
  obtain ⟨fn, h2, h3⟩ := map_some' h1
  simp only [Prod.mk.injEq] at h3
  exact ⟨fn, h2, h3.1, h3.2⟩

/-- A call that is given one object by name, and gives one value. -/
def CallsB (P : Program) (f : FuncId) (args : List A) (o o' : Obj) (v : A) : Prop := CallsA P f args [(1000, o)] fun r H => H = [(1000, o')] ∧ r = v
theorem callRG_F {P : Program} {d : Option Nat} {f : Nat} {K : St → Prop} {root : Nat} {st0 : Path} {o o1 o' : Obj} {b : Bool} {as : List A} {σ1 : St} {v : A} (h : CallsB P f as o1 o' v) (ht : o'.t = o1.t) (he : o'.e = o1.e)
    (hl : st0 = [] ∨ o'.xs.length = o1.xs.length) (hn : b = true → noShA v = true ∧ noShRows o'.xs = true)
    (k : K (setT { tm := dropR deep σ1.tm, ob := put σ1.ob root ⟨o.t, o.e, setA o.xs st0 o'.xs⟩ } d v)) : callRG P d f K root st0 o o1 b as σ1 :=
  CallsA.mono h fun r H ⟨hH, hr⟩ => ⟨o', hH, ht, he, hl, by rw [hr]; exact hn, by rw [hr]; exact k⟩
theorem callMG_F {P : Program} {d : Option Nat} {f : Nat} {K : St → Prop} {root i : Nat} {pre : Path} {fs : List Nat} {o o1 : Obj} {row : List C} {os os' : List Obj} {b : Bool} {as : List A} {σ1 : St} {v : A} (h : CallsA P f as (hobs 0 os) fun r H => H = hobs 0 os' ∧ r = v) (hs : same os os')
    (hn : b = true → noShA v = true ∧ noShOb (hobs 0 os') = true)
    (k : K (setT { tm := dropR deep σ1.tm, ob := put σ1.ob root ⟨o.t, o.e, setA o.xs pre (o1.xs.set i (pushM 0 row fs os'))⟩ } d v)) : callMG P d f K root pre i fs o o1 row os b as σ1 :=
  CallsA.mono h fun r H ⟨hH, hr⟩ => ⟨os', hH, hs, by rw [hr, hH]; exact hn, by rw [hr]; exact k⟩
end Go.Am

namespace Go.Am
open Go.ChangeShapes Go.WideShapes Go.RowKit

/-! ### From what an argument reads as, to a tree -/
inductive Sh where
  | i
  | s
  | l (e : Nat) (r : List Sh)
mutual
def inSh : Sh → C → Prop
  | .i, c => ∃ n : Int, c = .int .i64 n ∧ l0 n
  | .s, c => ∃ b : ByteArray, c = .str b ∧ b.size < 2 ^ 63
  | .l e r, c => ∃ xs : List (List C), c = .ar false 0 e xs ∧ xs.length < 2 ^ 63 ∧ ∀ x ∈ xs, inShs r x
def inShs : List Sh → List C → Prop
  | [], cs => cs = []
  | h :: r, cs => ∃ c cs', cs = c :: cs' ∧ inSh h c ∧ inShs r cs'
end
theorem inShs_len : ∀ {r : List Sh} {cs : List C}, inShs r cs → cs.length = r.length
  | [], _, h => by simp only [inShs] at h; simp [h]
  | _ :: r, _, h => by
    simp only [inShs] at h
    obtain ⟨c, cs', rfl, _, h⟩ := h
    simp [inShs_len h]
theorem inShs_append : ∀ {r : List Sh} {r' : List Sh} {cs cs' : List C}, inShs r cs → inShs r' cs' → inShs (r ++ r') (cs ++ cs')
  | [], _, _, _, h, h' => by simp only [inShs] at h; subst h; exact h'
  | _ :: r, _, _, _, h, h' => by
    simp only [inShs] at h
    obtain ⟨c, cs1, rfl, h1, h2⟩ := h
    simp only [List.cons_append, inShs]
    exact ⟨c, _, rfl, h1, inShs_append h2 h'⟩

/-- The shape of a struct's fields. -/
def shGo (P : Program) (sub : TypeId → Option (List Sh)) : Nat → List Field → Option (List Sh)
  | _, [] => some []
  | o, fl :: fs => if fl.offset = o then
      match sub fl.type with
      | some r => if r.length = P.cellsOf fl.type then
          match shGo P sub (o + P.cellsOf fl.type) fs with
          | some r' => some (r ++ r')
          | none => none
        else none
      | none => none
    else none
/-- The shape of a type. -/
def shT (P : Program) : Nat → TypeId → Option (List Sh)
  | 0, _ => none
  | f + 1, t => match P.underlying t with
    | some (.int .i64) => some [.i]
    | some .string => some [.s]
    | some (.slice e) => match shT P f e with
      | some r => if r.length = P.cellsOf e ∧ P.cellsOf e ≠ 0 then some [.l (P.cellsOf e) r] else none
      | none => none
    | some (.struct fs) => (shGo P (shT P f) 0 fs.toList).bind fun r => if r.length = P.cellsOf t then some r else none
    | _ => none

section
variable {H : Type} {enc : TypeId × Value → H} {P : Program} {w : World} {lc : Loc}
def old (w : World) : Nat → Prop := fun b => b < w.heap.size

theorem mapM_get {α β : Type} {f : α → Option β} : ∀ {xs : List α} {ys : List β}, xs.mapM f = some ys → ys.length = xs.length ∧ ∀ (i : Nat) x, xs[i]? = some x → ∃ y, ys[i]? = some y ∧ f x = some y
  | [], ys, h => by
    simp only [List.mapM_nil, Option.pure_def, Option.some.injEq] at h
    subst h
    exact ⟨rfl, fun i x h => by simp at h⟩
  | x :: xs, ys, h => by
    rw [List.mapM_cons] at h
    cases hx : f x with
    | none => rw [hx] at h; simp at h
    | some y =>
      rw [hx] at h
      cases hr : xs.mapM f with
      | none => rw [hr] at h; simp at h
      | some ys' =>
        rw [hr] at h
        simp only [Option.pure_def, Option.bind_eq_bind, Option.bind_some, Option.some.injEq] at h
        subst h
        obtain ⟨h1, h2⟩ := mapM_get hr
        refine ⟨by simp [h1], fun i z hz => ?_⟩
        cases i with
        | zero =>
          simp only [List.getElem?_cons_zero, Option.some.injEq] at hz
          subst hz
          exact ⟨y, by simp, hx⟩
        | succ i => simpa using h2 i z (by simpa using hz)

theorem cells_get {base n : Nat} {a : Addr} {cs : List Value} (h : w.cells? base a n = some cs) : cs.length = n ∧ ∀ i, i < n → w.cell? (a.add i) = cs[i]? := by
  unfold World.cells? at h
  split at h
  case isFalse => cases h
  obtain ⟨h1, h2⟩ := mapM_get h
  rw [List.length_range] at h1
  refine ⟨h1, fun i hi => ?_⟩
  obtain ⟨y, hy, hc⟩ := h2 i i (by simp [hi])
  rw [hc, hy]

theorem add_block (a : Addr) (i : Nat) : (a.add i).block = a.block := by unfold Addr.add; split <;> rfl
theorem cell_spot {a : Addr} {v : Value} (h : w.cell? a = some v) : a.spot = none := by
  unfold World.cell? at h
  split at h
  · split at h
    · cases h
    · rename_i hs
      cases hh : a.spot with
      | none => rfl
      | some x => rw [hh] at hs; simp at hs
  · cases h

/-- Rows that lie one behind the other. -/
theorem rows_of {e : Nat} {r : List Sh} (hr : r.length = e) : ∀ (len : Nat) (vs : List Value), vs.length = len * e → (∀ i, i < len → ∃ row, inShs r row ∧ repRow w (old w) row ((vs.drop (i * e)).take e) fz) →
    ∃ xs : List (List C), xs.length = len ∧ (∀ x ∈ xs, inShs r x) ∧ repRows w (old w) e xs vs fz
  | 0, vs, hl, _ => by
    have : vs = [] := List.eq_nil_of_length_eq_zero (by simpa using hl)
    subst this
    exact ⟨[], rfl, by simp, by simp [repRows]⟩
  | len + 1, vs, hl, h => by
    obtain ⟨row, h1, h2⟩ := h 0 (by omega)
    simp only [Nat.zero_mul, List.drop_zero] at h2
    obtain ⟨xs, h3, h4, h5⟩ := rows_of hr len (vs.drop e) (by rw [List.length_drop, hl, Nat.add_mul]; omega) fun i hi => by
      obtain ⟨row, h6, h7⟩ := h (i + 1) (by omega)
      refine ⟨row, h6, ?_⟩
      rw [List.drop_drop, Nat.add_comm e, ← Nat.succ_mul]
      exact h7
    refine ⟨row :: xs, by simp [h3], fun x hx => ?_, ?_⟩
    · rcases List.mem_cons.1 hx with rfl | hx
      · exact h1
      · exact h4 x hx
    · simp only [repRows]
      exact ⟨vs.take e, vs.drop e, fz, fz, by simp, by rw [inShs_len h1, hr], (add_fz _).symm, h2, h5⟩

theorem trod_sh : ∀ {f fuel : Nat} {t : TypeId} {cs : List Value} {r : List Sh} {x : DataW H × List MemPlace}, DataW.trod enc P w 0 (fun _ => true) true fuel t cs = some x → shT P f t = some r → ∃ row, inShs r row ∧ repRow w (old w) row cs fz
  | 0, _, _, _, _, _, _, hs => by simp [shT] at hs
  | f + 1, fuel, t, cs, r, x, h, hs => by
    simp only [shT] at hs
    split at hs
    · rename_i hu
      simp only [Option.some.injEq] at hs
      subst hs
      obtain ⟨n, rfl, _, hw⟩ := DataW.trod_int hu h
      have hn : l0 n := by
        simp [Lit.wf, IntKind.min, IntKind.max, IntKind.signed, IntKind.bits] at hw
        simp only [l0]; omega
      exact ⟨[.int .i64 n], by simp [inShs, inSh, hn], by simp only [repRow, repC]; exact ⟨_, [], fz, fz, rfl, (add_fz _).symm, ⟨rfl, rfl⟩, rfl, rfl⟩⟩
    · rename_i hu
      simp only [Option.some.injEq] at hs
      subst hs
      obtain ⟨b, rfl, _, hb⟩ := DataW.trod_string hu h
      refine ⟨[.str b], ?_, by simp only [repRow, repC]; exact ⟨_, [], fz, fz, rfl, (add_fz _).symm, ⟨rfl, rfl⟩, rfl, rfl⟩⟩
      simp only [inShs, inSh]
      exact ⟨_, [], rfl, ⟨b, rfl, by simp only [maxLen] at hb; omega⟩, rfl⟩
    · rename_i e hu
      split at hs
      case h_2 => cases hs
      rename_i r' he
      split at hs
      case isFalse => cases hs
      rename_i hlen
      obtain ⟨hlen, hne0⟩ := hlen
      simp only [Option.some.injEq] at hs
      subst hs
      rcases DataW.trod_slice hu h with ⟨rfl, _⟩ | ⟨a, len, cap, elems, rest, n, rfl, rfl, _, _, hlc, hcm, hel, hrd, _, _⟩
      · refine ⟨[.ar false 0 (P.cellsOf e) []], ?_, ?_⟩
        · simp only [inShs, inSh]
          exact ⟨_, [], rfl, ⟨[], rfl, by simp, by simp⟩, rfl⟩
        · simp only [repRow, repC]
          exact ⟨_, [], fz, fz, rfl, (add_fz _).symm, ⟨rfl, none, 0, rfl, by simp, by simp [maxLen], fun h => absurd rfl h⟩, rfl, rfl⟩
      · -- the elements
        have hrow : ∀ i, i < len → ∃ csi row, w.cells? 0 (a.add (i * P.cellsOf e)) (P.cellsOf e) = some csi ∧ inShs r' row ∧ repRow w (old w) row csi fz := by
          intro i hi
          have h1 := hrd i hi
          rw [List.getElem?_eq_getElem (by omega)] at h1
          cases hc : w.cells? 0 (a.add (i * P.cellsOf e)) (P.cellsOf e) with
          | none => rw [hc] at h1; simp at h1
          | some csi =>
            rw [hc] at h1
            obtain ⟨row, h2, h3⟩ := trod_sh (f := f) h1 he
            exact ⟨csi, row, rfl, h2, h3⟩
        by_cases hz : len = 0
        · subst hz
          refine ⟨[.ar false 0 (P.cellsOf e) []], ?_, ?_⟩
          · simp only [inShs, inSh]
            exact ⟨_, [], rfl, ⟨[], rfl, by simp, by simp⟩, rfl⟩
          · simp only [repRow, repC]
            exact ⟨_, [], fz, fz, rfl, (add_fz _).symm, ⟨rfl, some a, cap, rfl, by simp, hcm, fun h => absurd rfl h⟩, rfl, rfl⟩
        · have hl0 : 0 < len := by omega
          have he0 : 0 < P.cellsOf e := by omega
          obtain ⟨cs0, _, hc0, _, _⟩ := hrow 0 hl0
          obtain ⟨hl0', hg0⟩ := cells_get hc0
          have hcell0 := hg0 0 he0
          rw [List.getElem?_eq_getElem (by omega)] at hcell0
          have hsp : a.spot = none := by
            have := cell_spot hcell0
            simpa [Addr.add] using this
          obtain ⟨b, off, sp⟩ := a
          simp only at hsp
          subst hsp
          have hcellAt : ∀ i k, (Addr.add ⟨b, off, none⟩ (i * P.cellsOf e)).add k = ⟨b, off + (i * P.cellsOf e + k), none⟩ := fun i k => by
            rw [Addr.add_lit, Addr.add_lit, Nat.add_assoc]
          have hblk : ∃ cur ty fr, w.heap[b]? = some (.cells cur ty fr) := by
            have : w.cell? ⟨b, off + (0 * P.cellsOf e + 0), none⟩ = some cs0[0] := by rw [← hcellAt]; exact hcell0
            unfold World.cell? at this
            split at this
            · exact ⟨_, _, _, by assumption⟩
            · cases this
          obtain ⟨cur, ty, fr, hb⟩ := hblk
          have hcur : ∀ i k, i < len → k < P.cellsOf e → ∃ v, cur[off + (i * P.cellsOf e + k)]? = some v := by
            intro i k hi hk
            obtain ⟨csi, _, hci, _, _⟩ := hrow i hi
            obtain ⟨hli, hgi⟩ := cells_get hci
            have := hgi k hk
            rw [hcellAt, cell_of_blk hb, List.getElem?_eq_getElem (by omega)] at this
            exact ⟨_, this⟩
          have hsize : off + len * P.cellsOf e ≤ cur.size := by
            obtain ⟨v, hv⟩ := hcur (len - 1) (P.cellsOf e - 1) (by omega) (by omega)
            have h1 := (Array.getElem?_eq_some_iff.1 hv).1
            have h2 : len * P.cellsOf e = (len - 1) * P.cellsOf e + P.cellsOf e := by
              rw [← Nat.succ_mul]; congr 1; omega
            omega
          have hvl : ((cur.toList.drop off).take (len * P.cellsOf e)).length = len * P.cellsOf e := by
            rw [List.length_take, List.length_drop, Array.length_toList]; omega
          obtain ⟨xs, hx1, hx2, hx3⟩ := rows_of (w := w) hlen len _ hvl fun i hi => by
            obtain ⟨csi, row, hci, h2, h3⟩ := hrow i hi
            refine ⟨row, h2, ?_⟩
            obtain ⟨hli, hgi⟩ := cells_get hci
            have : (((cur.toList.drop off).take (len * P.cellsOf e)).drop (i * P.cellsOf e)).take (P.cellsOf e) = csi := by
              apply List.ext_getElem?
              intro k
              have hmul : (i + 1) * P.cellsOf e ≤ len * P.cellsOf e := Nat.mul_le_mul_right _ hi
              rw [Nat.add_mul, Nat.one_mul] at hmul
              by_cases hk : k < P.cellsOf e
              · rw [List.getElem?_take_of_lt hk, List.getElem?_drop, List.getElem?_take_of_lt (by omega), List.getElem?_drop]
                rw [← hgi k hk, hcellAt, cell_of_blk hb]
                simp
              · rw [List.getElem?_eq_none (by rw [List.length_take]; omega), List.getElem?_eq_none (by omega)]
            rw [this]; exact h3
          refine ⟨[.ar false 0 (P.cellsOf e) xs], ?_, ?_⟩
          · simp only [inShs, inSh]
            refine ⟨_, [], rfl, ⟨xs, rfl, by simp only [maxLen] at hcm; omega, hx2⟩, rfl⟩
          · simp only [repRow, repC]
            refine ⟨_, [], fz, fz, rfl, (add_fz _).symm, ⟨rfl, some ⟨b, off, none⟩, cap, by rw [hx1], by omega, hcm, fun _ => ⟨b, off, cur, ty, fr, rfl, (Array.getElem?_eq_some_iff.1 hb).1, hb, by rw [hx1]; exact hsize, by rw [hx1]; exact hx3⟩⟩, rfl, rfl⟩
    · rename_i fs hu
      cases hgo : shGo P (shT P f) 0 fs.toList with
      | none => rw [hgo] at hs; simp at hs
      | some r0 =>
        rw [hgo] at hs
        simp only [Option.bind_some] at hs
        split at hs
        case isFalse => cases hs
        rename_i hlen
        simp only [Option.some.injEq] at hs
        subst hs
        obtain ⟨xs, n, rfl, _, hcl, hxl, hfl⟩ := DataW.trod_struct hu h
        have key : ∀ (l : List Field) (o : Nat) (r1 : List Sh), shGo P (shT P f) o l = some r1 → (∀ fl ∈ l, ∃ y, DataW.trod enc P w 0 (fun _ => true) true n fl.type ((cs.drop fl.offset).take (P.cellsOf fl.type)) = some y) →
            ∃ row, inShs r1 row ∧ repRow w (old w) row ((cs.drop o).take r1.length) fz := by
          intro l
          induction l with
          | nil =>
            intro o r1 hg _
            simp only [shGo, Option.some.injEq] at hg
            subst hg
            exact ⟨[], by simp [inShs], by simp [repRow]⟩
          | cons fl l ih =>
            intro o r1 hg hall
            simp only [shGo] at hg
            split at hg
            case isFalse => cases hg
            rename_i ho
            subst ho
            split at hg
            case h_2 => cases hg
            rename_i ra hra
            split at hg
            case isFalse => cases hg
            rename_i hral
            split at hg
            case h_2 => cases hg
            rename_i rb hrb
            simp only [Option.some.injEq] at hg
            subst hg
            obtain ⟨y, hy⟩ := hall fl (List.mem_cons_self ..)
            obtain ⟨row1, h1, h2⟩ := trod_sh (f := f) hy hra
            obtain ⟨row2, h3, h4⟩ := ih _ _ hrb fun fl' hm => hall fl' (List.mem_cons_of_mem _ hm)
            refine ⟨row1 ++ row2, inShs_append h1 h3, ?_⟩
            have : (cs.drop fl.offset).take (ra ++ rb).length = (cs.drop fl.offset).take (P.cellsOf fl.type) ++ (cs.drop (fl.offset + P.cellsOf fl.type)).take rb.length := by
              rw [List.length_append, hral, List.take_add, List.drop_drop]
            rw [this]
            have happ : ∀ (r1 r2 : List C) (v1 v2 : List Value), repRow w (old w) r1 v1 fz → repRow w (old w) r2 v2 fz → repRow w (old w) (r1 ++ r2) (v1 ++ v2) fz := by
              intro r1
              induction r1 with
              | nil => intro r2 v1 v2 h1 h2; simp only [repRow] at h1; rw [h1.1]; exact h2
              | cons c r1 ih =>
                intro r2 v1 v2 h1 h2
                simp only [repRow] at h1
                obtain ⟨v, vs', F1, F2, rfl, hF, h3, h4⟩ := h1
                have e1 : F1 = fz := by funext x; have := congrFun hF x; simp only [add, fz] at *; omega
                have e2 : F2 = fz := by funext x; have := congrFun hF x; simp only [add, fz] at *; omega
                subst e1; subst e2
                simp only [List.cons_append, repRow]
                exact ⟨v, _, fz, fz, rfl, (add_fz _).symm, h3, ih _ _ _ h4 h2⟩
            exact happ _ _ _ _ h2 h4
        obtain ⟨row, h1, h2⟩ := key fs.toList 0 r0 hgo fun fl hm => by
          obtain ⟨i, hi, hfi⟩ := List.getElem_of_mem hm
          have := hfl i fl (by simp only [Array.length_toList] at hi; rw [Array.getElem?_eq_getElem hi]; simpa using hfi)
          simp only [Array.length_toList] at hi
          rw [List.getElem?_eq_getElem (by omega)] at this
          exact ⟨_, this⟩
        refine ⟨row, h1, ?_⟩
        rw [List.drop_zero, List.take_of_length_le (by omega)] at h2
        exact h2
    · cases hs

/-- A slice that came in. -/
theorem arg_sl {r : Reach} {b0 f : Nat} {t e : TypeId} {v : Value} {d : DataW H} {ps : List MemPlace} {h : Sh} (ht : P.underlying t = some (.slice e)) (hs : shT P f t = some [h]) (hval : Value.okWide P w r b0 t v)
    (hd : DataW.Trod enc P w 0 (fun _ => true) true t v d ps) : ∃ c, inSh h c ∧ repA w (old w) lc (.one c) v fz := by
  obtain ⟨a, len, cap, rfl⟩ := okWide_slice ht hval
  obtain ⟨fuel, hf⟩ := hd
  obtain ⟨row, h1, h2⟩ := trod_sh hf hs
  simp only [inShs] at h1
  obtain ⟨c, cs', rfl, h1, rfl⟩ := h1
  simp only [repRow, Value.cells] at h2
  obtain ⟨g, vs', F1, F2, hv, hF, h3, h4, rfl⟩ := h2
  have e1 : F1 = fz := by rw [add_fz] at hF; exact hF.symm
  subst e1
  simp at hv
  rw [hv.1]
  exact ⟨c, h1, repC_T h3⟩
/-- A string that came in. -/
theorem arg_str {r : Reach} {b0 : Nat} {t : TypeId} {v : Value} {d : DataW H} {ps : List MemPlace} (ht : P.underlying t = some .string) (hval : Value.okWide P w r b0 t v)
    (hd : DataW.Trod enc P w 0 (fun _ => true) true t v d ps) : ∃ s : ByteArray, v = .string s ∧ s.size < 2 ^ 63 := by
  obtain ⟨s, rfl⟩ := okWide_string ht hval
  obtain ⟨fuel, hf⟩ := hd
  obtain ⟨b, hb1, _, hb⟩ := DataW.trod_string ht hf
  simp only [Value.cells] at hb1
  have : s = b := by simpa using hb1
  subst this
  exact ⟨s, rfl, by simp only [maxLen] at hb; omega⟩
/-- A struct that came in. -/
theorem arg_st {r : Reach} {b0 f : Nat} {t : TypeId} {fs : Array Field} {v : Value} {d : DataW H} {ps : List MemPlace} {sh : List Sh} (ht : P.underlying t = some (.struct fs)) (hs : shT P f t = some sh) (hval : Value.okWide P w r b0 t v)
    (hd : DataW.Trod enc P w 0 (fun _ => true) true t v d ps) : ∃ row, inShs sh row ∧ repA w (old w) lc (.agg row) v fz := by
  obtain ⟨cs, rfl, _⟩ := okWide_struct ht hval
  obtain ⟨fuel, hf⟩ := hd
  obtain ⟨row, h1, h2⟩ := trod_sh hf hs
  exact ⟨row, h1, cs.toList, by simp, repRow_T h2⟩

/-- A list of rows of a kind. -/
theorem of_list {α : Type} {r : List Sh} {s : α → List C} {l : α → Prop} (h : ∀ x, inShs r x → ∃ a, x = s a ∧ l a) : ∀ xs : List (List C), (∀ x ∈ xs, inShs r x) → ∃ as : List α, xs = as.map s ∧ ∀ a ∈ as, l a
  | [], _ => ⟨[], rfl, by simp⟩
  | x :: xs, hx => by
    obtain ⟨a, rfl, ha⟩ := h x (hx x (List.mem_cons_self ..))
    obtain ⟨as, rfl, has⟩ := of_list h xs fun y hy => hx y (List.mem_cons_of_mem _ hy)
    refine ⟨a :: as, rfl, fun b hb => ?_⟩
    rcases List.mem_cons.1 hb with rfl | hb
    · exact ha
    · exact has b hb
theorem of_sl {α : Type} {r : List Sh} {s : α → List C} {l : α → Prop} {e : Nat} (h : ∀ x, inShs r x → ∃ a, x = s a ∧ l a) (c : C) (hc : inSh (.l e r) c) : ∃ as : List α, c = .ar false 0 e (as.map s) ∧ lL l as := by
  simp only [inSh] at hc
  obtain ⟨xs, rfl, hl, hx⟩ := hc
  obtain ⟨as, rfl, ha⟩ := of_list h xs hx
  exact ⟨as, rfl, by simpa using hl, fun i hi => ha _ (List.getElem_mem hi)⟩
theorem of_int (x : List C) (h : inShs [.i] x) : ∃ a : Int, x = rI a ∧ l0 a := by
  simp only [inShs, inSh] at h
  obtain ⟨c, cs', rfl, ⟨n, rfl, hn⟩, rfl⟩ := h
  exact ⟨n, rfl, hn⟩

theorem below_of {f : FuncId} {args : List A} {c : C} (h : CallsF P f args (.one c)) (hr : ∀ w N g F, repC w N c g F → g = .bool true) (W : World) (gs : List Value) (hn : ∀ a ∈ args, a.ref inR = false) (ha : repAs W (old W) (fun _ => none) args gs fz) (hc : c.plain = true) :
    Calls P f gs.toArray W fun e W' => e = .returned (.bool true) ∧ Below W.heap.size W W' := by
  refine (h W (old W) (fun _ => none) gs fz fz fz ⟨fun _ => Nat.zero_le _, fun b hb => absurd hb (by simp [fz]), fun b hb => ⟨rfl, hb⟩⟩ (fun _ => Nat.le_refl _) hn ha rfl).mono ?_
  rintro e w' ⟨g, r, H', N', lc', F', Fr', Fo', rfl, ⟨rfl, rfl⟩, hB, hr', _, _, _, hF⟩
  exact ⟨by rw [hr _ _ _ _ (plain_repC hc hr')], hF.os, hF.tape, hF.output, hF.size, fun k hk => hF.keep k hk rfl⟩
end
end Go.Am

