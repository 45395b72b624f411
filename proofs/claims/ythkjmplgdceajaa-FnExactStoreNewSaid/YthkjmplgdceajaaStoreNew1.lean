/- PROVED: for every int, StoreNew of the program returns what the reference's StoreNew returns, in memory of its own; the argument reads as it did. No condition. -/
import Derived.Test.YthkjmplgdceajaaAm5
import Derived.Test.YthkjmplgdceajaaProg
import Derived.Test.YthkjmplgdceajaaRows
import Derived.ProofKit
set_option linter.unusedVariables false
set_option linter.unusedSimpArgs false
namespace Go.Am
open Go.Proofs
noncomputable def PT : List (Nat × TI) := mkT Try.prog (List.range 182)
noncomputable def PF : List Nat := mkF Try.prog (List.range 133)
def PA : An := ⟨[], false, true, [(19, 0), (20, 0), (25, 0), (32, 0), (49, 0)], false⟩
def PB : An := ⟨[], false, true, [(19, 0), (20, 0), (25, 0), (32, 0), (49, 0)], true⟩
theorem Pmo : PA.mo = true → Try.prog.follows .mixedOrders = true := fun _ => by kernel_rfl
theorem PmoB : PB.mo = true → Try.prog.follows .mixedOrders = true := fun _ => by kernel_rfl
theorem Prun {f : FuncId} {k : K} {r : Nat × List RV} {args : List A} {v : A} (hc : cmpS PT PF PA (Try.prog.funcs[f]?) = some (r.1, r.2, stripK k)) (hn : args.length ≤ r.1) (hn2 : args.length ≤ 1000)
    (h : awp Try.prog k (FPost' r.2 fun a H => H = [] ∧ a = v) (entry args [])) : CallsF Try.prog f args v := callF_run (mkT_ok _ _) (mkF_ok _ _) PA Pmo hc hn hn2 h
theorem PrunA {f : FuncId} {k : K} {r : Nat × List RV} {args : List A} {H : List (Nat × Obj)} {R : A → List (Nat × Obj) → Prop} (hc : cmpS PT PF PA (Try.prog.funcs[f]?) = some (r.1, r.2, stripK k)) (hn : args.length ≤ r.1) (hn2 : args.length ≤ 1000)
    (h : awp Try.prog k (FPost' r.2 R) (entry args H)) : CallsA Try.prog f args H R := calls_runS (mkT_ok _ _) (mkF_ok _ _) PA Pmo hc hn hn2 h
theorem PrunB {f : FuncId} {k : K} {r : Nat × List RV} {args : List A} {H : List (Nat × Obj)} {R : A → List (Nat × Obj) → Prop} (hc : cmpS PT PF PB (Try.prog.funcs[f]?) = some (r.1, r.2, stripK k)) (hn : args.length ≤ r.1) (hn2 : args.length ≤ 1000)
    (h : awp Try.prog k (FPost' r.2 R) (entry args H)) : CallsA Try.prog f args H R := calls_runS (mkT_ok _ _) (mkF_ok _ _) PB PmoB hc hn hn2 h
end Go.Am
-- inr
namespace Go.Am
open Go.Proofs
set_option maxHeartbeats 4000000
def inr (a lo hi : Int) : Bool := decide (lo ≤ a) && decide (a ≤ hi)
-- 44 loop.example/g00485/spec.l1In
def k_spec_l1In : K :=
 .seq (
  .reg none [⟨(some 6), none, .asn (.c (.bool false))⟩]) (
 .seq (
  .reg none [⟨(some 7), none, .mv (.t 0)⟩,
    ⟨(some 8), none, .mv (.t 1)⟩,
    ⟨(some 9), none, .bin .geq (.t 7) (.t 8)⟩,
    ⟨(some 10), none, .mv (.t 9)⟩,
    ⟨(some 11), (some (10, true)), .mv (.t 0)⟩,
    ⟨(some 12), (some (10, true)), .mv (.t 2)⟩,
    ⟨(some 13), (some (10, true)), .bin .leq (.t 11) (.t 12)⟩,
    ⟨(some 14), none, .pick (.t 10) (.t 13) (.c (.bool false))⟩,
    ⟨(some 6), none, .asn (.t 14)⟩]) (
 .ret))
def r_spec_l1In : Nat × List RV := (15, [.t 6])

theorem c_spec_l1In : cmpS PT PF PA (Try.prog.funcs[44]?) = some (r_spec_l1In.1, r_spec_l1In.2, stripK k_spec_l1In) := by kernel_rfl

theorem h_spec_l1In (a lo hi : Int) : CallsF Try.prog 44 [aI a, aI lo, aI hi] (aB (inr a lo hi)) := by
  refine Prun c_spec_l1In (by simp [r_spec_l1In]) (by simp) ?_
  unfold k_spec_l1In r_spec_l1In
  by_cases h : lo ≤ a
  · simp [h, inr]
  · simp [h, inr]
-- 45 loop.example/g00485/impl.inRange
def k_impl_inRange : K :=
 .seq (
  .reg none [⟨(some 6), none, .asn (.c (.bool false))⟩]) (
 .seq (
  .reg none [⟨(some 7), none, .mv (.t 0)⟩,
    ⟨(some 8), none, .mv (.t 1)⟩,
    ⟨(some 9), none, .bin .geq (.t 7) (.t 8)⟩,
    ⟨(some 10), none, .mv (.t 9)⟩,
    ⟨(some 11), (some (10, true)), .mv (.t 0)⟩,
    ⟨(some 12), (some (10, true)), .mv (.t 2)⟩,
    ⟨(some 13), (some (10, true)), .bin .leq (.t 11) (.t 12)⟩,
    ⟨(some 14), none, .pick (.t 10) (.t 13) (.c (.bool false))⟩,
    ⟨(some 6), none, .asn (.t 14)⟩]) (
 .ret))
def r_impl_inRange : Nat × List RV := (15, [.t 6])

theorem c_impl_inRange : cmpS PT PF PA (Try.prog.funcs[45]?) = some (r_impl_inRange.1, r_impl_inRange.2, stripK k_impl_inRange) := by kernel_rfl

theorem h_impl_inRange (a lo hi : Int) : CallsF Try.prog 45 [aI a, aI lo, aI hi] (aB (inr a lo hi)) := by
  refine Prun c_impl_inRange (by simp [r_impl_inRange]) (by simp) ?_
  unfold k_impl_inRange r_impl_inRange
  by_cases h : lo ≤ a
  · simp [h, inr]
  · simp [h, inr]
end Go.Am
-- ints
namespace Go.Am
open Go.Proofs
set_option maxHeartbeats 4000000
-- 17 loop.example/g00485/laws.eqIntS
def k_laws_eqIntS : K :=
 .seq (
  .reg none [⟨(some 4), none, .asn (.c (.bool false))⟩]) (
 .seq (
  .seq (
   .reg none [⟨(some 6), none, .mv (.t 0)⟩,
     ⟨(some 7), none, .len (.t 6)⟩,
     ⟨(some 8), none, .mv (.t 1)⟩,
     ⟨(some 9), none, .len (.t 8)⟩,
     ⟨(some 10), none, .bin .neq (.t 7) (.t 9)⟩]) (
  .cond (.t 10) (
   .seq (
    .reg none [⟨(some 4), none, .asn (.c (.bool false))⟩]) (
   .ret)) (
   .skip))) (
 .seq (
  .seq (
   .reg none [⟨(some 5), none, .asn (.c (.int .i64 (0)))⟩]) (
  .block 0 (
   .loop (some ([0, 1, 5], [0, 1, 5, 1000])) (
    .seq (
     .seq (
      .reg none [⟨(some 11), none, .mv (.t 5)⟩,
        ⟨(some 12), none, .mv (.t 0)⟩,
        ⟨(some 13), none, .len (.t 12)⟩,
        ⟨(some 14), none, .bin .lss (.t 11) (.t 13)⟩]) (
     .cond (.t 14) (
      .skip) (
      .exit 0))) (
    .seq (
     .block 1 (
      .seq (
       .drw none 9 [⟨(some 17), none, .mv (.t 0)⟩,
         ⟨(some 18), none, .mv (.t 5)⟩,
         ⟨(some 19), none, .iad 1 (.t 17) (.t 18)⟩,
         ⟨(some 20), none, .ld 1 false (.t 19)⟩,
         ⟨(some 21), none, .mv (.t 1)⟩,
         ⟨(some 22), none, .mv (.t 5)⟩,
         ⟨(some 23), none, .iad 1 (.t 21) (.t 22)⟩,
         ⟨(some 24), none, .ld 1 false (.t 23)⟩,
         ⟨(some 25), none, .bin .neq (.t 20) (.t 24)⟩]) (
      .cond (.t 25) (
       .seq (
        .reg none [⟨(some 4), none, .asn (.c (.bool false))⟩]) (
       .ret)) (
       .skip)))) (
    .reg none [⟨(some 15), none, .mv (.t 5)⟩,
      ⟨(some 16), none, .bin .add (.t 15) (.c (.int .i64 (1)))⟩,
      ⟨(some 5), none, .asn (.t 16)⟩])))))) (
 .seq (
  .reg none [⟨(some 4), none, .asn (.c (.bool true))⟩]) (
 .ret))))
def r_laws_eqIntS : Nat × List RV := (26, [.t 4])

theorem c_laws_eqIntS : cmpS PT PF PA (Try.prog.funcs[17]?) = some (r_laws_eqIntS.1, r_laws_eqIntS.2, stripK k_laws_eqIntS) := by kernel_rfl

theorem h_eqIntS (xs : List Int) (hx : wL w0 xs < 2 ^ 40) : CallsF Try.prog 17 [.one (.ar false 0 1 (xs.map rI)), .one (.ar false 0 1 (xs.map rI))] (aB true) := by
  refine Prun c_laws_eqIntS (by simp [r_laws_eqIntS]) (by simp) ?_
  unfold k_laws_eqIntS r_laws_eqIntS
  rw [wL_w0] at hx
  simp
  refine awp_loop (fun n σ => ∃ i : Nat, i ≤ xs.length ∧ n = xs.length - i ∧ σ = ⟨[(0, .one (.ar false 0 1 (xs.map rI))), (1, .one (.ar false 0 1 (xs.map rI))), (5, aI i)], []⟩) (xs.length) ⟨0, by simp⟩ ?_
  rintro n σ ⟨i, hi, rfl, rfl⟩
  by_cases h : i < xs.length
  · simp [h]
    refine ⟨xs.length - (i + 1), by omega, i + 1, by omega, rfl, ?_⟩
    rw [wrapI (by omega) (by omega)]
    simp
  · simp [h]
-- 14 loop.example/g00485/laws.toIntS
def k_laws_toIntS : K :=
 .seq (
  .reg none [⟨(some 2), none, .asn (.c (.ar true 3 1 []))⟩]) (
 .seq (
  .reg none [⟨(some 5), none, .mv (.t 0)⟩,
    ⟨(some 6), none, .len (.t 5)⟩,
    ⟨(some 7), none, .mks 3 1 8 [(.int .i64 (0))] (.t 6) (.t 6)⟩,
    ⟨(some 3), none, .asn (.t 7)⟩]) (
 .seq (
  .seq (
   .reg none [⟨(some 4), none, .asn (.c (.int .i64 (0)))⟩]) (
  .block 0 (
   .loop (some ([0, 3, 4], [0, 3, 4, 1000])) (
    .seq (
     .seq (
      .reg none [⟨(some 8), none, .mv (.t 4)⟩,
        ⟨(some 9), none, .mv (.t 0)⟩,
        ⟨(some 10), none, .len (.t 9)⟩,
        ⟨(some 11), none, .bin .lss (.t 8) (.t 10)⟩]) (
     .cond (.t 11) (
      .skip) (
      .exit 0))) (
    .seq (
     .block 1 (
      .reg none [⟨(some 14), none, .mv (.t 3)⟩,
        ⟨(some 15), none, .mv (.t 4)⟩,
        ⟨(some 16), none, .mv (.t 0)⟩,
        ⟨(some 17), none, .mv (.t 4)⟩,
        ⟨(some 18), none, .iad 1 (.t 16) (.t 17)⟩,
        ⟨(some 19), none, .ld 1 false (.t 18)⟩,
        ⟨(some 20), none, .iad 1 (.t 14) (.t 15)⟩,
        ⟨none, none, .st 1 false (.t 20) (.t 19)⟩])) (
    .reg none [⟨(some 12), none, .mv (.t 4)⟩,
      ⟨(some 13), none, .bin .add (.t 12) (.c (.int .i64 (1)))⟩,
      ⟨(some 4), none, .asn (.t 13)⟩])))))) (
 .seq (
  .reg none [⟨(some 21), none, .mv (.t 3)⟩,
    ⟨(some 2), none, .asn (.t 21)⟩]) (
 .ret))))
def r_laws_toIntS : Nat × List RV := (22, [.t 2])

theorem c_laws_toIntS : cmpS PT PF PA (Try.prog.funcs[14]?) = some (r_laws_toIntS.1, r_laws_toIntS.2, stripK k_laws_toIntS) := by kernel_rfl

theorem h_toIntS (xs : List Int) (hx : wL w0 xs < 2 ^ 31) : CallsF Try.prog 14 [.one (.ar false 0 1 (xs.map rI))] (.one (.ar true 3 1 (xs.map rI))) := by
  refine Prun c_laws_toIntS (by simp [r_laws_toIntS]) (by simp) ?_
  unfold k_laws_toIntS r_laws_toIntS
  rw [wL_w0] at hx
  have hc : ((xs.length : Int) ≤ 4294967296) := by omega
  simp [hc]
  refine awp_loop (fun n σ => ∃ i : Nat, i ≤ xs.length ∧ n = xs.length - i ∧ σ = ⟨[(0, .one (.ar false 0 1 (xs.map rI))), (3, .one (.vw 3 1 3 [] 0 xs.length)), (4, aI i)], [(3, ⟨3, 1, part rI [.int .i64 0] xs i⟩)]⟩) (xs.length) ⟨0, by simp [part_zero]⟩ ?_
  rintro n σ ⟨i, hi, rfl, rfl⟩
  by_cases h : i < xs.length
  · simp [h, part_get h]
    refine ⟨xs.length - (i + 1), by omega, i + 1, by omega, rfl, ?_⟩
    rw [wrapI (by omega) (by omega)]
    have := part_set (r := rI) (z := [.int .i64 0]) h
    simp only [rI] at this
    simp [this]
  · have : i = xs.length := by omega
    subst this
    simp [part_all]
end Go.Am
-- Conf_y
namespace Go.Am
open Go.Proofs
set_option maxHeartbeats 4000000
structure TConf where
  alt : Int
  row : List Int
  deriving DecidableEq, Inhabited
def rConf (a : TConf) : List C := [cI a.alt, .ar true 3 1 (a.row.map rI)]
def sConf (a : TConf) : List C := [cI a.alt, .ar false 0 1 (a.row.map rI)]
def zConf : List C := [cI 0, .ar true 3 1 []]
@[simp] theorem rConf_len (a : TConf) : (rConf a).length = 2 := rfl
@[simp] theorem sConf_len (a : TConf) : (sConf a).length = 2 := rfl
@[simp] theorem shr_rConf (a : TConf) : shrRow (rConf a) = sConf a := by simp [rConf, sConf]
@[simp] theorem shr_sConf (a : TConf) : shrRow (sConf a) = sConf a := by simp [sConf]
@[simp] theorem shrs_rConf (xs : List TConf) : shrRows (xs.map rConf) = xs.map sConf := shrRows_of shr_rConf xs
@[simp] theorem shrs_sConf (xs : List TConf) : shrRows (xs.map sConf) = xs.map sConf := shrRows_of shr_sConf xs
@[simp] theorem noSh_rConf (xs : List TConf) : noShRows (xs.map rConf) = true := noSh_of (fun a => by simp [rConf]) xs
def wConf (a : TConf) : Nat := wL w0 a.row
def lConf (a : TConf) : Prop := lL l0 a.row
def mConf : Mk TConf := ⟨fun a k => ⟨k, mI.mkL a.row (k + 1)⟩, fun a => 1 + mI.nL a.row⟩
@[simp] theorem mConf_wr (a : TConf) (k : Int) : mConf.wr a k = ⟨k, mI.mkL a.row (k + 1)⟩ := rfl
@[simp] theorem mConf_n (a : TConf) : mConf.n a = 1 + mI.nL a.row := rfl
end Go.Am
-- Line_y
namespace Go.Am
open Go.Proofs
set_option maxHeartbeats 4000000
structure TLine where
  frm : List TConf
  letter : Int
  too : List TConf
  deriving DecidableEq, Inhabited
def rLine (a : TLine) : List C := [.ar true 85 2 (a.frm.map rConf), cI a.letter, .ar true 85 2 (a.too.map rConf)]
def sLine (a : TLine) : List C := [.ar false 0 2 (a.frm.map sConf), cI a.letter, .ar false 0 2 (a.too.map sConf)]
def zLine : List C := [.ar true 85 2 [], cI 0, .ar true 85 2 []]
@[simp] theorem rLine_len (a : TLine) : (rLine a).length = 3 := rfl
@[simp] theorem sLine_len (a : TLine) : (sLine a).length = 3 := rfl
@[simp] theorem shr_rLine (a : TLine) : shrRow (rLine a) = sLine a := by simp [rLine, sLine]
@[simp] theorem shr_sLine (a : TLine) : shrRow (sLine a) = sLine a := by simp [sLine]
@[simp] theorem shrs_rLine (xs : List TLine) : shrRows (xs.map rLine) = xs.map sLine := shrRows_of shr_rLine xs
@[simp] theorem shrs_sLine (xs : List TLine) : shrRows (xs.map sLine) = xs.map sLine := shrRows_of shr_sLine xs
@[simp] theorem noSh_rLine (xs : List TLine) : noShRows (xs.map rLine) = true := noSh_of (fun a => by simp [rLine]) xs
def wLine (a : TLine) : Nat := wL wConf a.frm + wL wConf a.too
def lLine (a : TLine) : Prop := lL lConf a.frm ∧ lL lConf a.too
def mLine : Mk TLine := ⟨fun a k => ⟨mConf.mkL a.frm (k), k + mConf.nL a.frm, mConf.mkL a.too (k + mConf.nL a.frm + 1)⟩, fun a => mConf.nL a.frm + 1 + mConf.nL a.too⟩
@[simp] theorem mLine_wr (a : TLine) (k : Int) : mLine.wr a k = ⟨mConf.mkL a.frm (k), k + mConf.nL a.frm, mConf.mkL a.too (k + mConf.nL a.frm + 1)⟩ := rfl
@[simp] theorem mLine_n (a : TLine) : mLine.n a = mConf.nL a.frm + 1 + mConf.nL a.too := rfl
end Go.Am
-- Store_y
namespace Go.Am
open Go.Proofs
set_option maxHeartbeats 4000000
structure TStore where
  cap : Int
  lines : List TLine
  deriving DecidableEq, Inhabited
def rStore (a : TStore) : List C := [cI a.cap, .ar true 90 3 (a.lines.map rLine)]
def sStore (a : TStore) : List C := [cI a.cap, .ar false 0 3 (a.lines.map sLine)]
def zStore : List C := [cI 0, .ar true 90 3 []]
@[simp] theorem rStore_len (a : TStore) : (rStore a).length = 2 := rfl
@[simp] theorem sStore_len (a : TStore) : (sStore a).length = 2 := rfl
@[simp] theorem shr_rStore (a : TStore) : shrRow (rStore a) = sStore a := by simp [rStore, sStore]
@[simp] theorem shr_sStore (a : TStore) : shrRow (sStore a) = sStore a := by simp [sStore]
@[simp] theorem shrs_rStore (xs : List TStore) : shrRows (xs.map rStore) = xs.map sStore := shrRows_of shr_rStore xs
@[simp] theorem shrs_sStore (xs : List TStore) : shrRows (xs.map sStore) = xs.map sStore := shrRows_of shr_sStore xs
@[simp] theorem noSh_rStore (xs : List TStore) : noShRows (xs.map rStore) = true := noSh_of (fun a => by simp [rStore]) xs
def wStore (a : TStore) : Nat := wL wLine a.lines
def lStore (a : TStore) : Prop := lL lLine a.lines
def mStore : Mk TStore := ⟨fun a k => ⟨k, mLine.mkL a.lines (k + 1)⟩, fun a => 1 + mLine.nL a.lines⟩
@[simp] theorem mStore_wr (a : TStore) (k : Int) : mStore.wr a k = ⟨k, mLine.mkL a.lines (k + 1)⟩ := rfl
@[simp] theorem mStore_n (a : TStore) : mStore.n a = 1 + mLine.nL a.lines := rfl
end Go.Am
-- StoreNew
namespace Go.Am
open Go.Proofs
set_option maxHeartbeats 4000000
def storeNew (n : Int) : TStore := if inr n 1 16 then ⟨n, []⟩ else ⟨0, []⟩
-- 22 loop.example/g00485/spec.StoreNew
def k_spec_StoreNew : K :=
 .seq (
  .reg none [⟨(some 2), none, .alc 38 2 [(.int .i64 (0)), (.ar true 90 3 [])]⟩,
    ⟨(some 3), none, .asn (.c (.bool false))⟩]) (
 .seq (
  .seq (
   .reg none [⟨(some 4), none, .mv (.t 0)⟩,
     ⟨(some 5), none, .call 44 [(.t 4), (.c (.int .i64 (1))), (.c (.int .i64 (16)))]⟩,
     ⟨(some 6), none, .not (.t 5)⟩]) (
  .cond (.t 6) (
   .seq (
    .reg none [⟨(some 7), none, .bld false [(.int .i64 (0)), (.ar true 90 3 [])] []⟩,
      ⟨none, none, .st 2 false (.t 2) (.t 7)⟩,
      ⟨(some 3), none, .asn (.c (.bool false))⟩]) (
   .ret)) (
   .skip))) (
 .seq (
  .reg none [⟨(some 8), none, .mv (.t 0)⟩,
    ⟨(some 9), none, .bld false [(.int .i64 (0)), (.ar true 90 3 [])] [(0, 1, (.t 8))]⟩,
    ⟨none, none, .st 2 false (.t 2) (.t 9)⟩,
    ⟨(some 3), none, .asn (.c (.bool true))⟩]) (
 .ret)))
def r_spec_StoreNew : Nat × List RV := (10, [.c 2 2 true, .t 3])

theorem c_spec_StoreNew : cmpS PT PF PA (Try.prog.funcs[22]?) = some (r_spec_StoreNew.1, r_spec_StoreNew.2, stripK k_spec_StoreNew) := by kernel_rfl

theorem h_spec_StoreNew (n : Int) : CallsF Try.prog 22 [aI n] (.tup [(true, rStore (storeNew n)), (false, [.bool (inr n 1 16)])]) := by
  refine Prun c_spec_StoreNew (by simp [r_spec_StoreNew]) (by simp) ?_
  unfold k_spec_StoreNew r_spec_StoreNew
  simp
  refine callG_F (h_spec_l1In _ _ _) (by simp) ?_
  cases h : inr n 1 16 <;> simp [h, storeNew, rStore]
-- 23 loop.example/g00485/impl.StoreNew
def k_impl_StoreNew : K :=
 .seq (
  .reg none [⟨(some 2), none, .alc 38 2 [(.int .i64 (0)), (.ar true 90 3 [])]⟩,
    ⟨(some 3), none, .asn (.c (.bool false))⟩]) (
 .seq (
  .seq (
   .reg none [⟨(some 4), none, .mv (.t 0)⟩,
     ⟨(some 5), none, .call 45 [(.t 4), (.c (.int .i64 (1))), (.c (.int .i64 (16)))]⟩,
     ⟨(some 6), none, .not (.t 5)⟩]) (
  .cond (.t 6) (
   .seq (
    .reg none [⟨(some 7), none, .bld false [(.int .i64 (0)), (.ar true 90 3 [])] []⟩,
      ⟨none, none, .st 2 false (.t 2) (.t 7)⟩,
      ⟨(some 3), none, .asn (.c (.bool false))⟩]) (
   .ret)) (
   .skip))) (
 .seq (
  .reg none [⟨(some 8), none, .mv (.t 0)⟩,
    ⟨(some 9), none, .bld false [(.int .i64 (0)), (.ar true 90 3 [])] [(0, 1, (.t 8))]⟩,
    ⟨none, none, .st 2 false (.t 2) (.t 9)⟩,
    ⟨(some 3), none, .asn (.c (.bool true))⟩]) (
 .ret)))
def r_impl_StoreNew : Nat × List RV := (10, [.c 2 2 true, .t 3])

theorem c_impl_StoreNew : cmpS PT PF PA (Try.prog.funcs[23]?) = some (r_impl_StoreNew.1, r_impl_StoreNew.2, stripK k_impl_StoreNew) := by kernel_rfl

theorem h_impl_StoreNew (n : Int) : CallsF Try.prog 23 [aI n] (.tup [(true, rStore (storeNew n)), (false, [.bool (inr n 1 16)])]) := by
  refine Prun c_impl_StoreNew (by simp [r_impl_StoreNew]) (by simp) ?_
  unfold k_impl_StoreNew r_impl_StoreNew
  simp
  refine callG_F (h_impl_inRange _ _ _) (by simp) ?_
  cases h : inr n 1 16 <;> simp [h, storeNew, rStore]
end Go.Am
-- Conf_eq1
namespace Go.Am
open Go.Proofs
set_option maxHeartbeats 4000000
-- 55 loop.example/g00485/laws.eqConf
def k_laws_eqConf : K :=
 .seq (
  .reg none [⟨(some 2), none, .box 85 2 (.t 0)⟩,
    ⟨(some 3), none, .box 85 2 (.t 1)⟩,
    ⟨(some 4), none, .asn (.c (.bool false))⟩]) (
 .seq (
  .seq (
   .reg none [⟨(some 5), none, .fad 0 (.t 2)⟩,
     ⟨(some 6), none, .ld 1 false (.t 5)⟩,
     ⟨(some 7), none, .fad 0 (.t 3)⟩,
     ⟨(some 8), none, .ld 1 false (.t 7)⟩,
     ⟨(some 9), none, .bin .neq (.t 6) (.t 8)⟩]) (
  .cond (.t 9) (
   .seq (
    .reg none [⟨(some 4), none, .asn (.c (.bool false))⟩]) (
   .ret)) (
   .skip))) (
 .seq (
  .seq (
   .reg none [⟨(some 10), none, .fad 1 (.t 2)⟩,
     ⟨(some 11), none, .ld 1 false (.t 10)⟩,
     ⟨(some 12), none, .fad 1 (.t 3)⟩,
     ⟨(some 13), none, .ld 1 false (.t 12)⟩,
     ⟨(some 14), none, .call 17 [(.t 11), (.t 13)]⟩,
     ⟨(some 15), none, .not (.t 14)⟩]) (
  .cond (.t 15) (
   .seq (
    .reg none [⟨(some 4), none, .asn (.c (.bool false))⟩]) (
   .ret)) (
   .skip))) (
 .seq (
  .reg none [⟨(some 4), none, .asn (.c (.bool true))⟩]) (
 .ret))))
def r_laws_eqConf : Nat × List RV := (16, [.t 4])

theorem c_laws_eqConf : cmpS PT PF PA (Try.prog.funcs[55]?) = some (r_laws_eqConf.1, r_laws_eqConf.2, stripK k_laws_eqConf) := by kernel_rfl

theorem h_eqConf (a : TConf) (ha : wConf a < 2 ^ 40) : CallsF Try.prog 55 [.agg (sConf a), .agg (sConf a)] (aB true) := by
  refine Prun c_laws_eqConf (by simp [r_laws_eqConf]) (by simp) ?_
  unfold k_laws_eqConf r_laws_eqConf
  simp only [wConf] at ha
  simp [sConf]
  refine callG_F (h_eqIntS a.row (by omega)) (by simp) ?_
  simp
end Go.Am
-- Conf_eq
namespace Go.Am
open Go.Proofs
set_option maxHeartbeats 4000000
-- 31 loop.example/g00485/laws.eqConfS
def k_laws_eqConfS : K :=
 .seq (
  .reg none [⟨(some 4), none, .asn (.c (.bool false))⟩]) (
 .seq (
  .seq (
   .reg none [⟨(some 6), none, .mv (.t 0)⟩,
     ⟨(some 7), none, .len (.t 6)⟩,
     ⟨(some 8), none, .mv (.t 1)⟩,
     ⟨(some 9), none, .len (.t 8)⟩,
     ⟨(some 10), none, .bin .neq (.t 7) (.t 9)⟩]) (
  .cond (.t 10) (
   .seq (
    .reg none [⟨(some 4), none, .asn (.c (.bool false))⟩]) (
   .ret)) (
   .skip))) (
 .seq (
  .seq (
   .reg none [⟨(some 5), none, .asn (.c (.int .i64 (0)))⟩]) (
  .block 0 (
   .loop (some ([0, 1, 5], [0, 1, 5, 1000])) (
    .seq (
     .seq (
      .reg none [⟨(some 11), none, .mv (.t 5)⟩,
        ⟨(some 12), none, .mv (.t 0)⟩,
        ⟨(some 13), none, .len (.t 12)⟩,
        ⟨(some 14), none, .bin .lss (.t 11) (.t 13)⟩]) (
     .cond (.t 14) (
      .skip) (
      .exit 0))) (
    .seq (
     .block 1 (
      .seq (
       .drw none 10 [⟨(some 17), none, .mv (.t 0)⟩,
         ⟨(some 18), none, .mv (.t 5)⟩,
         ⟨(some 19), none, .iad 2 (.t 17) (.t 18)⟩,
         ⟨(some 20), none, .ld 2 true (.t 19)⟩,
         ⟨(some 21), none, .mv (.t 1)⟩,
         ⟨(some 22), none, .mv (.t 5)⟩,
         ⟨(some 23), none, .iad 2 (.t 21) (.t 22)⟩,
         ⟨(some 24), none, .ld 2 true (.t 23)⟩,
         ⟨(some 25), none, .call 55 [(.t 20), (.t 24)]⟩,
         ⟨(some 26), none, .not (.t 25)⟩]) (
      .cond (.t 26) (
       .seq (
        .reg none [⟨(some 4), none, .asn (.c (.bool false))⟩]) (
       .ret)) (
       .skip)))) (
    .reg none [⟨(some 15), none, .mv (.t 5)⟩,
      ⟨(some 16), none, .bin .add (.t 15) (.c (.int .i64 (1)))⟩,
      ⟨(some 5), none, .asn (.t 16)⟩])))))) (
 .seq (
  .reg none [⟨(some 4), none, .asn (.c (.bool true))⟩]) (
 .ret))))
def r_laws_eqConfS : Nat × List RV := (27, [.t 4])

theorem c_laws_eqConfS : cmpS PT PF PA (Try.prog.funcs[31]?) = some (r_laws_eqConfS.1, r_laws_eqConfS.2, stripK k_laws_eqConfS) := by kernel_rfl

theorem h_eqConfS (xs : List TConf) (hx : wL wConf xs < 2 ^ 40) : CallsF Try.prog 31 [.one (.ar false 0 2 (xs.map sConf)), .one (.ar false 0 2 (xs.map sConf))] (aB true) := by
  refine Prun c_laws_eqConfS (by simp [r_laws_eqConfS]) (by simp) ?_
  unfold k_laws_eqConfS r_laws_eqConfS
  have hlen := wL_len wConf xs
  simp
  refine awp_loop (fun n σ => ∃ i : Nat, i ≤ xs.length ∧ n = xs.length - i ∧ σ = ⟨[(0, .one (.ar false 0 2 (xs.map sConf))), (1, .one (.ar false 0 2 (xs.map sConf))), (5, aI i)], []⟩) (xs.length) ⟨0, by simp⟩ ?_
  rintro n σ ⟨i, hi, rfl, rfl⟩
  by_cases h : i < xs.length
  · have hw := wL_get wConf xs i h
    simp [h, sConf]
    refine ⟨_, by simp, h_eqConf xs[i] (by omega), ?_⟩
    simp
    refine ⟨xs.length - (i + 1), by omega, i + 1, by omega, rfl, ?_⟩
    rw [wrapI (by omega) (by omega)]
    simp
  · simp [h]
end Go.Am
-- Line_eq1
namespace Go.Am
open Go.Proofs
set_option maxHeartbeats 4000000
-- 72 loop.example/g00485/laws.eqLine
def k_laws_eqLine : K :=
 .seq (
  .reg none [⟨(some 2), none, .box 90 3 (.t 0)⟩,
    ⟨(some 3), none, .box 90 3 (.t 1)⟩,
    ⟨(some 4), none, .asn (.c (.bool false))⟩]) (
 .seq (
  .seq (
   .reg none [⟨(some 5), none, .fad 0 (.t 2)⟩,
     ⟨(some 6), none, .ld 1 false (.t 5)⟩,
     ⟨(some 7), none, .fad 0 (.t 3)⟩,
     ⟨(some 8), none, .ld 1 false (.t 7)⟩,
     ⟨(some 9), none, .call 31 [(.t 6), (.t 8)]⟩,
     ⟨(some 10), none, .not (.t 9)⟩]) (
  .cond (.t 10) (
   .seq (
    .reg none [⟨(some 4), none, .asn (.c (.bool false))⟩]) (
   .ret)) (
   .skip))) (
 .seq (
  .seq (
   .reg none [⟨(some 11), none, .fad 1 (.t 2)⟩,
     ⟨(some 12), none, .ld 1 false (.t 11)⟩,
     ⟨(some 13), none, .fad 1 (.t 3)⟩,
     ⟨(some 14), none, .ld 1 false (.t 13)⟩,
     ⟨(some 15), none, .bin .neq (.t 12) (.t 14)⟩]) (
  .cond (.t 15) (
   .seq (
    .reg none [⟨(some 4), none, .asn (.c (.bool false))⟩]) (
   .ret)) (
   .skip))) (
 .seq (
  .seq (
   .reg none [⟨(some 16), none, .fad 2 (.t 2)⟩,
     ⟨(some 17), none, .ld 1 false (.t 16)⟩,
     ⟨(some 18), none, .fad 2 (.t 3)⟩,
     ⟨(some 19), none, .ld 1 false (.t 18)⟩,
     ⟨(some 20), none, .call 31 [(.t 17), (.t 19)]⟩,
     ⟨(some 21), none, .not (.t 20)⟩]) (
  .cond (.t 21) (
   .seq (
    .reg none [⟨(some 4), none, .asn (.c (.bool false))⟩]) (
   .ret)) (
   .skip))) (
 .seq (
  .reg none [⟨(some 4), none, .asn (.c (.bool true))⟩]) (
 .ret)))))
def r_laws_eqLine : Nat × List RV := (22, [.t 4])

theorem c_laws_eqLine : cmpS PT PF PA (Try.prog.funcs[72]?) = some (r_laws_eqLine.1, r_laws_eqLine.2, stripK k_laws_eqLine) := by kernel_rfl

theorem h_eqLine (a : TLine) (ha : wLine a < 2 ^ 40) : CallsF Try.prog 72 [.agg (sLine a), .agg (sLine a)] (aB true) := by
  refine Prun c_laws_eqLine (by simp [r_laws_eqLine]) (by simp) ?_
  unfold k_laws_eqLine r_laws_eqLine
  simp only [wLine] at ha
  simp [sLine]
  refine callG_F (h_eqConfS a.frm (by omega)) (by simp) ?_
  simp
  refine callG_F (h_eqConfS a.too (by omega)) (by simp) ?_
  simp
end Go.Am
-- Line_eq
namespace Go.Am
open Go.Proofs
set_option maxHeartbeats 4000000
-- 48 loop.example/g00485/laws.eqLineS
def k_laws_eqLineS : K :=
 .seq (
  .reg none [⟨(some 4), none, .asn (.c (.bool false))⟩]) (
 .seq (
  .seq (
   .reg none [⟨(some 6), none, .mv (.t 0)⟩,
     ⟨(some 7), none, .len (.t 6)⟩,
     ⟨(some 8), none, .mv (.t 1)⟩,
     ⟨(some 9), none, .len (.t 8)⟩,
     ⟨(some 10), none, .bin .neq (.t 7) (.t 9)⟩]) (
  .cond (.t 10) (
   .seq (
    .reg none [⟨(some 4), none, .asn (.c (.bool false))⟩]) (
   .ret)) (
   .skip))) (
 .seq (
  .seq (
   .reg none [⟨(some 5), none, .asn (.c (.int .i64 (0)))⟩]) (
  .block 0 (
   .loop (some ([0, 1, 5], [0, 1, 5, 1000])) (
    .seq (
     .seq (
      .reg none [⟨(some 11), none, .mv (.t 5)⟩,
        ⟨(some 12), none, .mv (.t 0)⟩,
        ⟨(some 13), none, .len (.t 12)⟩,
        ⟨(some 14), none, .bin .lss (.t 11) (.t 13)⟩]) (
     .cond (.t 14) (
      .skip) (
      .exit 0))) (
    .seq (
     .block 1 (
      .seq (
       .drw none 10 [⟨(some 17), none, .mv (.t 0)⟩,
         ⟨(some 18), none, .mv (.t 5)⟩,
         ⟨(some 19), none, .iad 3 (.t 17) (.t 18)⟩,
         ⟨(some 20), none, .ld 3 true (.t 19)⟩,
         ⟨(some 21), none, .mv (.t 1)⟩,
         ⟨(some 22), none, .mv (.t 5)⟩,
         ⟨(some 23), none, .iad 3 (.t 21) (.t 22)⟩,
         ⟨(some 24), none, .ld 3 true (.t 23)⟩,
         ⟨(some 25), none, .call 72 [(.t 20), (.t 24)]⟩,
         ⟨(some 26), none, .not (.t 25)⟩]) (
      .cond (.t 26) (
       .seq (
        .reg none [⟨(some 4), none, .asn (.c (.bool false))⟩]) (
       .ret)) (
       .skip)))) (
    .reg none [⟨(some 15), none, .mv (.t 5)⟩,
      ⟨(some 16), none, .bin .add (.t 15) (.c (.int .i64 (1)))⟩,
      ⟨(some 5), none, .asn (.t 16)⟩])))))) (
 .seq (
  .reg none [⟨(some 4), none, .asn (.c (.bool true))⟩]) (
 .ret))))
def r_laws_eqLineS : Nat × List RV := (27, [.t 4])

theorem c_laws_eqLineS : cmpS PT PF PA (Try.prog.funcs[48]?) = some (r_laws_eqLineS.1, r_laws_eqLineS.2, stripK k_laws_eqLineS) := by kernel_rfl

theorem h_eqLineS (xs : List TLine) (hx : wL wLine xs < 2 ^ 40) : CallsF Try.prog 48 [.one (.ar false 0 3 (xs.map sLine)), .one (.ar false 0 3 (xs.map sLine))] (aB true) := by
  refine Prun c_laws_eqLineS (by simp [r_laws_eqLineS]) (by simp) ?_
  unfold k_laws_eqLineS r_laws_eqLineS
  have hlen := wL_len wLine xs
  simp
  refine awp_loop (fun n σ => ∃ i : Nat, i ≤ xs.length ∧ n = xs.length - i ∧ σ = ⟨[(0, .one (.ar false 0 3 (xs.map sLine))), (1, .one (.ar false 0 3 (xs.map sLine))), (5, aI i)], []⟩) (xs.length) ⟨0, by simp⟩ ?_
  rintro n σ ⟨i, hi, rfl, rfl⟩
  by_cases h : i < xs.length
  · have hw := wL_get wLine xs i h
    simp [h, sLine]
    refine ⟨_, by simp, h_eqLine xs[i] (by omega), ?_⟩
    simp
    refine ⟨xs.length - (i + 1), by omega, i + 1, by omega, rfl, ?_⟩
    rw [wrapI (by omega) (by omega)]
    simp
  · simp [h]
end Go.Am
-- Store_eq1
namespace Go.Am
open Go.Proofs
set_option maxHeartbeats 4000000
-- 24 loop.example/g00485/laws.eqStore
def k_laws_eqStore : K :=
 .seq (
  .reg none [⟨(some 2), none, .box 38 2 (.t 0)⟩,
    ⟨(some 3), none, .box 38 2 (.t 1)⟩,
    ⟨(some 4), none, .asn (.c (.bool false))⟩]) (
 .seq (
  .seq (
   .reg none [⟨(some 5), none, .fad 0 (.t 2)⟩,
     ⟨(some 6), none, .ld 1 false (.t 5)⟩,
     ⟨(some 7), none, .fad 0 (.t 3)⟩,
     ⟨(some 8), none, .ld 1 false (.t 7)⟩,
     ⟨(some 9), none, .bin .neq (.t 6) (.t 8)⟩]) (
  .cond (.t 9) (
   .seq (
    .reg none [⟨(some 4), none, .asn (.c (.bool false))⟩]) (
   .ret)) (
   .skip))) (
 .seq (
  .seq (
   .reg none [⟨(some 10), none, .fad 1 (.t 2)⟩,
     ⟨(some 11), none, .ld 1 false (.t 10)⟩,
     ⟨(some 12), none, .fad 1 (.t 3)⟩,
     ⟨(some 13), none, .ld 1 false (.t 12)⟩,
     ⟨(some 14), none, .call 48 [(.t 11), (.t 13)]⟩,
     ⟨(some 15), none, .not (.t 14)⟩]) (
  .cond (.t 15) (
   .seq (
    .reg none [⟨(some 4), none, .asn (.c (.bool false))⟩]) (
   .ret)) (
   .skip))) (
 .seq (
  .reg none [⟨(some 4), none, .asn (.c (.bool true))⟩]) (
 .ret))))
def r_laws_eqStore : Nat × List RV := (16, [.t 4])

theorem c_laws_eqStore : cmpS PT PF PA (Try.prog.funcs[24]?) = some (r_laws_eqStore.1, r_laws_eqStore.2, stripK k_laws_eqStore) := by kernel_rfl

theorem h_eqStore (a : TStore) (ha : wStore a < 2 ^ 40) : CallsF Try.prog 24 [.agg (sStore a), .agg (sStore a)] (aB true) := by
  refine Prun c_laws_eqStore (by simp [r_laws_eqStore]) (by simp) ?_
  unfold k_laws_eqStore r_laws_eqStore
  simp only [wStore] at ha
  simp [sStore]
  refine callG_F (h_eqLineS a.lines (by omega)) (by simp) ?_
  simp
end Go.Am
-- intk
namespace Go.Am
open Go.Proofs
set_option maxHeartbeats 4000000
-- 19 loop.example/g00485/laws.markIntS
def k_laws_markIntS : K :=
 .seq (
  .reg none [⟨(some 4), none, .asn (.c (.int .i64 (0)))⟩]) (
 .seq (
  .seq (
   .reg none [⟨(some 5), none, .asn (.c (.int .i64 (0)))⟩]) (
  .block 0 (
   .loop (some ([0, 1, 5], [0, 1, 5, 1000])) (
    .seq (
     .seq (
      .reg none [⟨(some 6), none, .mv (.t 5)⟩,
        ⟨(some 7), none, .mv (.t 0)⟩,
        ⟨(some 8), none, .len (.t 7)⟩,
        ⟨(some 9), none, .bin .lss (.t 6) (.t 8)⟩]) (
     .cond (.t 9) (
      .skip) (
      .exit 0))) (
    .seq (
     .block 1 (
      .seq (
       .reg none [⟨(some 12), none, .mv (.t 0)⟩,
         ⟨(some 13), none, .mv (.t 5)⟩,
         ⟨(some 14), none, .mv (.t 1)⟩,
         ⟨(some 15), none, .iad 1 (.t 12) (.t 13)⟩,
         ⟨none, none, .st 1 false (.t 15) (.t 14)⟩]) (
      .reg none [⟨(some 16), none, .mv (.t 1)⟩,
        ⟨(some 17), none, .bin .add (.t 16) (.c (.int .i64 (1)))⟩,
        ⟨(some 1), none, .asn (.t 17)⟩]))) (
    .reg none [⟨(some 10), none, .mv (.t 5)⟩,
      ⟨(some 11), none, .bin .add (.t 10) (.c (.int .i64 (1)))⟩,
      ⟨(some 5), none, .asn (.t 11)⟩])))))) (
 .seq (
  .reg none [⟨(some 18), none, .mv (.t 1)⟩,
    ⟨(some 4), none, .asn (.t 18)⟩]) (
 .ret)))
def r_laws_markIntS : Nat × List RV := (19, [.t 4])

theorem c_laws_markIntS : cmpS PT PF PB (Try.prog.funcs[19]?) = some (r_laws_markIntS.1, r_laws_markIntS.2, stripK k_laws_markIntS) := by kernel_rfl

theorem h_markIntS (t : Nat) (xs : List Int) (k : Int) (hk : 0 ≤ k) (hk2 : k + mI.nL xs < 2 ^ 50) :
    CallsB Try.prog 19 [.one (.vw t 1 1000 [] 0 xs.length), aI k] ⟨t, 1, xs.map rI⟩ ⟨t, 1, (mI.mkL xs k).map rI⟩ (aI (k + mI.nL xs)) := by
  refine PrunB c_laws_markIntS (by simp [r_laws_markIntS]) (by simp) ?_
  unfold k_laws_markIntS r_laws_markIntS
  have hn : (mI.nL xs : Int) = xs.length := by simp [mI_n]
  simp
  refine awp_loop (fun n σ => ∃ i : Nat, i ≤ xs.length ∧ n = xs.length - i ∧ σ = ⟨[(0, .one (.vw t 1 1000 [] 0 xs.length)), (1, aI (mI.pos xs k i)), (5, aI i)], [(1000, ⟨t, 1, (mI.upto xs k i).map rI⟩)]⟩) (xs.length) ⟨0, by simp [Mk.upto_zero, Mk.pos_zero]⟩ ?_
  rintro n σ ⟨i, hi, rfl, rfl⟩
  have hp1 : mI.pos xs k i ≤ k + mI.nL xs := Mk.pos_le hi
  have hp2 : k ≤ mI.pos xs k i := Mk.pos_ge
  by_cases h : i < xs.length
  · have hpst : mI.pos xs k (i + 1) = mI.pos xs k i + 1 := Mk.pos_step h
    have hst := Mk.upto_set (M := mI) (k := k) h
    have hle : mI.pos xs k (i + 1) ≤ k + mI.nL xs := Mk.pos_le h
    have w1 : IntKind.i64.wrap (mI.pos xs k i + 1) = mI.pos xs k (i + 1) := by rw [wrapI (by omega) (by omega), hpst]
    have w2 : IntKind.i64.wrap ((i : Int) + 1) = i + 1 := wrapI (by omega) (by omega)
    simp [h, w1, w2]
    refine ⟨xs.length - (i + 1), by omega, i + 1, by omega, rfl, ?_⟩
    rw [← hst]
    simp
  · have : i = xs.length := by omega
    subst this
    simp [Mk.upto_all, Mk.pos_all]
end Go.Am
-- Conf_mk
namespace Go.Am
open Go.Proofs
set_option maxHeartbeats 4000000
-- 32 loop.example/g00485/laws.markConfS
def k_laws_markConfS : K :=
 .seq (
  .reg none [⟨(some 4), none, .asn (.c (.int .i64 (0)))⟩]) (
 .seq (
  .seq (
   .reg none [⟨(some 5), none, .asn (.c (.int .i64 (0)))⟩]) (
  .block 0 (
   .loop (some ([0, 1, 5], [0, 1, 5, 1000])) (
    .seq (
     .seq (
      .reg none [⟨(some 6), none, .mv (.t 5)⟩,
        ⟨(some 7), none, .mv (.t 0)⟩,
        ⟨(some 8), none, .len (.t 7)⟩,
        ⟨(some 9), none, .bin .lss (.t 6) (.t 8)⟩]) (
     .cond (.t 9) (
      .skip) (
      .exit 0))) (
    .seq (
     .block 1 (
      .seq (
       .reg none [⟨(some 12), none, .mv (.t 0)⟩,
         ⟨(some 13), none, .mv (.t 5)⟩,
         ⟨(some 14), none, .mv (.t 1)⟩,
         ⟨(some 15), none, .iad 2 (.t 12) (.t 13)⟩,
         ⟨(some 16), none, .fad 0 (.t 15)⟩,
         ⟨none, none, .st 1 false (.t 16) (.t 14)⟩]) (
      .seq (
       .reg none [⟨(some 17), none, .mv (.t 1)⟩,
         ⟨(some 18), none, .bin .add (.t 17) (.c (.int .i64 (1)))⟩,
         ⟨(some 1), none, .asn (.t 18)⟩]) (
      .reg none [⟨(some 19), none, .mv (.t 0)⟩,
        ⟨(some 20), none, .mv (.t 5)⟩,
        ⟨(some 21), none, .iad 2 (.t 19) (.t 20)⟩,
        ⟨(some 22), none, .fad 1 (.t 21)⟩,
        ⟨(some 23), none, .ld 1 false (.t 22)⟩,
        ⟨(some 24), none, .mv (.t 1)⟩,
        ⟨(some 25), none, .callr 19 (.t 23) [(.t 23), (.t 24)]⟩,
        ⟨(some 1), none, .asn (.t 25)⟩])))) (
    .reg none [⟨(some 10), none, .mv (.t 5)⟩,
      ⟨(some 11), none, .bin .add (.t 10) (.c (.int .i64 (1)))⟩,
      ⟨(some 5), none, .asn (.t 11)⟩])))))) (
 .seq (
  .reg none [⟨(some 26), none, .mv (.t 1)⟩,
    ⟨(some 4), none, .asn (.t 26)⟩]) (
 .ret)))
def r_laws_markConfS : Nat × List RV := (27, [.t 4])

theorem c_laws_markConfS : cmpS PT PF PB (Try.prog.funcs[32]?) = some (r_laws_markConfS.1, r_laws_markConfS.2, stripK k_laws_markConfS) := by kernel_rfl

theorem h_markConfS (t : Nat) (xs : List TConf) (k : Int) (hk : 0 ≤ k) (hk2 : k + mConf.nL xs < 2 ^ 50) (hk3 : wL wConf xs < 2 ^ 50) :
    CallsB Try.prog 32 [.one (.vw t 2 1000 [] 0 xs.length), aI k] ⟨t, 2, xs.map rConf⟩ ⟨t, 2, (mConf.mkL xs k).map rConf⟩ (aI (k + mConf.nL xs)) := by
  refine PrunB c_laws_markConfS (by simp [r_laws_markConfS]) (by simp) ?_
  unfold k_laws_markConfS r_laws_markConfS
  have hlen := wL_len wConf xs
  simp
  refine awp_loop (fun n σ => ∃ i : Nat, i ≤ xs.length ∧ n = xs.length - i ∧ σ = ⟨[(0, .one (.vw t 2 1000 [] 0 xs.length)), (1, aI (mConf.pos xs k i)), (5, aI i)], [(1000, ⟨t, 2, (mConf.upto xs k i).map rConf⟩)]⟩) (xs.length) ⟨0, by simp [Mk.upto_zero, Mk.pos_zero]⟩ ?_
  rintro n σ ⟨i, hi, rfl, rfl⟩
  have hp1 : mConf.pos xs k i ≤ k + mConf.nL xs := Mk.pos_le hi
  have hp2 : k ≤ mConf.pos xs k i := Mk.pos_ge
  by_cases h : i < xs.length
  · have hw := wL_get wConf xs i h
    have hpst : mConf.pos xs k (i + 1) = mConf.pos xs k i + mConf.n xs[i] := Mk.pos_step h
    have hle : mConf.pos xs k (i + 1) ≤ k + mConf.nL xs := Mk.pos_le h
    have hst := Mk.upto_set (M := mConf) (k := k) h
    have hga := Mk.upto_at (M := mConf) (k := k) h
    have hll := Mk.upto_len (M := mConf) (xs := xs) (k := k) (i := i)
    generalize mConf.upto xs k i = us at *
    generalize hκ : mConf.pos xs k i = p0 at *
    rcases ha : xs[i] with ⟨balt, brow⟩
    simp only [ha, mConf_n, mConf_wr] at hpst hga hst
    simp only [ha, wConf] at hw
    obtain ⟨p1, hq1⟩ : ∃ p : Int, p = p0 + 1 := ⟨_, rfl⟩
    have ww0 : IntKind.i64.wrap (p0 + 1) = p1 := by rw [wrapI (by omega) (by omega), hq1]
    have nn0 : ¬ p1 < 0 := by omega
    obtain ⟨p2, hq2⟩ : ∃ p : Int, p = p1 + (mI.nL brow : Int) := ⟨_, rfl⟩
    have nn1 : ¬ p2 < 0 := by omega
    simp only [← hq1, ← hq2] at hga hst
    simp [h, hga, hll, rConf, ww0, nn0, nn1]
    have hc1 := h_markIntS 3 brow p1 (by omega) (by omega)
    rw [← hq2] at hc1
    refine callRG_F hc1 rfl rfl (by simp) (by simp) ?_
    simp [h, hga, hll, rConf, ww0, nn0, nn1]
    refine ⟨xs.length - (i + 1), by omega, i + 1, by omega, rfl, ?_⟩
    rw [wrapI (by omega) (by omega)]
    rw [← hst]
    simp [rConf]
    omega
  · have : i = xs.length := by omega
    subst this
    simp [Mk.upto_all, Mk.pos_all]
end Go.Am
-- Line_mk
namespace Go.Am
open Go.Proofs
set_option maxHeartbeats 4000000
-- 49 loop.example/g00485/laws.markLineS
def k_laws_markLineS : K :=
 .seq (
  .reg none [⟨(some 4), none, .asn (.c (.int .i64 (0)))⟩]) (
 .seq (
  .seq (
   .reg none [⟨(some 5), none, .asn (.c (.int .i64 (0)))⟩]) (
  .block 0 (
   .loop (some ([0, 1, 5], [0, 1, 5, 1000])) (
    .seq (
     .seq (
      .reg none [⟨(some 6), none, .mv (.t 5)⟩,
        ⟨(some 7), none, .mv (.t 0)⟩,
        ⟨(some 8), none, .len (.t 7)⟩,
        ⟨(some 9), none, .bin .lss (.t 6) (.t 8)⟩]) (
     .cond (.t 9) (
      .skip) (
      .exit 0))) (
    .seq (
     .block 1 (
      .seq (
       .reg none [⟨(some 12), none, .mv (.t 0)⟩,
         ⟨(some 13), none, .mv (.t 5)⟩,
         ⟨(some 14), none, .iad 3 (.t 12) (.t 13)⟩,
         ⟨(some 15), none, .fad 0 (.t 14)⟩,
         ⟨(some 16), none, .ld 1 false (.t 15)⟩,
         ⟨(some 17), none, .mv (.t 1)⟩,
         ⟨(some 18), none, .callr 32 (.t 16) [(.t 16), (.t 17)]⟩,
         ⟨(some 1), none, .asn (.t 18)⟩]) (
      .seq (
       .reg none [⟨(some 19), none, .mv (.t 0)⟩,
         ⟨(some 20), none, .mv (.t 5)⟩,
         ⟨(some 21), none, .mv (.t 1)⟩,
         ⟨(some 22), none, .iad 3 (.t 19) (.t 20)⟩,
         ⟨(some 23), none, .fad 1 (.t 22)⟩,
         ⟨none, none, .st 1 false (.t 23) (.t 21)⟩]) (
      .seq (
       .reg none [⟨(some 24), none, .mv (.t 1)⟩,
         ⟨(some 25), none, .bin .add (.t 24) (.c (.int .i64 (1)))⟩,
         ⟨(some 1), none, .asn (.t 25)⟩]) (
      .reg none [⟨(some 26), none, .mv (.t 0)⟩,
        ⟨(some 27), none, .mv (.t 5)⟩,
        ⟨(some 28), none, .iad 3 (.t 26) (.t 27)⟩,
        ⟨(some 29), none, .fad 2 (.t 28)⟩,
        ⟨(some 30), none, .ld 1 false (.t 29)⟩,
        ⟨(some 31), none, .mv (.t 1)⟩,
        ⟨(some 32), none, .callr 32 (.t 30) [(.t 30), (.t 31)]⟩,
        ⟨(some 1), none, .asn (.t 32)⟩]))))) (
    .reg none [⟨(some 10), none, .mv (.t 5)⟩,
      ⟨(some 11), none, .bin .add (.t 10) (.c (.int .i64 (1)))⟩,
      ⟨(some 5), none, .asn (.t 11)⟩])))))) (
 .seq (
  .reg none [⟨(some 33), none, .mv (.t 1)⟩,
    ⟨(some 4), none, .asn (.t 33)⟩]) (
 .ret)))
def r_laws_markLineS : Nat × List RV := (34, [.t 4])

theorem c_laws_markLineS : cmpS PT PF PB (Try.prog.funcs[49]?) = some (r_laws_markLineS.1, r_laws_markLineS.2, stripK k_laws_markLineS) := by kernel_rfl

theorem h_markLineS (t : Nat) (xs : List TLine) (k : Int) (hk : 0 ≤ k) (hk2 : k + mLine.nL xs < 2 ^ 50) (hk3 : wL wLine xs < 2 ^ 50) :
    CallsB Try.prog 49 [.one (.vw t 3 1000 [] 0 xs.length), aI k] ⟨t, 3, xs.map rLine⟩ ⟨t, 3, (mLine.mkL xs k).map rLine⟩ (aI (k + mLine.nL xs)) := by
  refine PrunB c_laws_markLineS (by simp [r_laws_markLineS]) (by simp) ?_
  unfold k_laws_markLineS r_laws_markLineS
  have hlen := wL_len wLine xs
  simp
  refine awp_loop (fun n σ => ∃ i : Nat, i ≤ xs.length ∧ n = xs.length - i ∧ σ = ⟨[(0, .one (.vw t 3 1000 [] 0 xs.length)), (1, aI (mLine.pos xs k i)), (5, aI i)], [(1000, ⟨t, 3, (mLine.upto xs k i).map rLine⟩)]⟩) (xs.length) ⟨0, by simp [Mk.upto_zero, Mk.pos_zero]⟩ ?_
  rintro n σ ⟨i, hi, rfl, rfl⟩
  have hp1 : mLine.pos xs k i ≤ k + mLine.nL xs := Mk.pos_le hi
  have hp2 : k ≤ mLine.pos xs k i := Mk.pos_ge
  by_cases h : i < xs.length
  · have hw := wL_get wLine xs i h
    have hpst : mLine.pos xs k (i + 1) = mLine.pos xs k i + mLine.n xs[i] := Mk.pos_step h
    have hle : mLine.pos xs k (i + 1) ≤ k + mLine.nL xs := Mk.pos_le h
    have hst := Mk.upto_set (M := mLine) (k := k) h
    have hga := Mk.upto_at (M := mLine) (k := k) h
    have hll := Mk.upto_len (M := mLine) (xs := xs) (k := k) (i := i)
    generalize mLine.upto xs k i = us at *
    generalize hκ : mLine.pos xs k i = p0 at *
    rcases ha : xs[i] with ⟨bfrm, bletter, btoo⟩
    simp only [ha, mLine_n, mLine_wr] at hpst hga hst
    simp only [ha, wLine] at hw
    obtain ⟨p1, hq1⟩ : ∃ p : Int, p = p0 + (mConf.nL bfrm : Int) := ⟨_, rfl⟩
    have nn0 : ¬ p1 < 0 := by omega
    obtain ⟨p2, hq2⟩ : ∃ p : Int, p = p1 + 1 := ⟨_, rfl⟩
    have ww1 : IntKind.i64.wrap (p1 + 1) = p2 := by rw [wrapI (by omega) (by omega), hq2]
    have nn1 : ¬ p2 < 0 := by omega
    obtain ⟨p3, hq3⟩ : ∃ p : Int, p = p2 + (mConf.nL btoo : Int) := ⟨_, rfl⟩
    have nn2 : ¬ p3 < 0 := by omega
    simp only [← hq1, ← hq2, ← hq3] at hga hst
    simp [h, hga, hll, rLine, nn0, ww1, nn1, nn2]
    have hc0 := h_markConfS 85 bfrm p0 (by omega) (by omega) (by omega)
    rw [← hq1] at hc0
    refine callRG_F hc0 rfl rfl (by simp) (by simp) ?_
    simp [h, hga, hll, rLine, nn0, ww1, nn1, nn2]
    have hc2 := h_markConfS 85 btoo p2 (by omega) (by omega) (by omega)
    rw [← hq3] at hc2
    refine callRG_F hc2 rfl rfl (by simp) (by simp) ?_
    simp [h, hga, hll, rLine, nn0, ww1, nn1, nn2]
    refine ⟨xs.length - (i + 1), by omega, i + 1, by omega, rfl, ?_⟩
    rw [wrapI (by omega) (by omega)]
    rw [← hst]
    simp [rLine]
    omega
  · have : i = xs.length := by omega
    subst this
    simp [Mk.upto_all, Mk.pos_all]
end Go.Am
-- Store_u
namespace Go.Am
open Go.Proofs
set_option maxHeartbeats 4000000
def vStore (a : TStore) : List C := [cI a.cap, .vw 90 3 1000 [] 0 a.lines.length]
def uStore : Mk TStore := ⟨fun a k => ⟨a.cap, mLine.mkL a.lines (k)⟩, fun a => mLine.nL a.lines⟩
@[simp] theorem uStore_wr (a : TStore) (k : Int) : uStore.wr a k = ⟨a.cap, mLine.mkL a.lines (k)⟩ := rfl
@[simp] theorem uStore_n (a : TStore) : uStore.n a = mLine.nL a.lines := rfl
end Go.Am
-- Store_mk1
namespace Go.Am
open Go.Proofs
set_option maxHeartbeats 4000000
-- 25 loop.example/g00485/laws.markStore
def k_laws_markStore : K :=
 .seq (
  .reg none [⟨(some 2), none, .boxs 2 (.t 0)⟩,
    ⟨(some 4), none, .asn (.c (.int .i64 (0)))⟩]) (
 .seq (
  .reg none [⟨(some 5), none, .fad 1 (.t 2)⟩,
    ⟨(some 6), none, .ld 1 false (.t 5)⟩,
    ⟨(some 7), none, .mv (.t 1)⟩,
    ⟨(some 8), none, .callr 49 (.t 6) [(.t 6), (.t 7)]⟩,
    ⟨(some 1), none, .asn (.t 8)⟩]) (
 .seq (
  .reg none [⟨(some 9), none, .mv (.t 1)⟩,
    ⟨(some 4), none, .asn (.t 9)⟩]) (
 .ret)))
def r_laws_markStore : Nat × List RV := (10, [.t 4])

theorem c_laws_markStore : cmpS PT PF PB (Try.prog.funcs[25]?) = some (r_laws_markStore.1, r_laws_markStore.2, stripK k_laws_markStore) := by kernel_rfl

theorem h_markStore (a : TStore) (k : Int) (hk : 0 ≤ k) (hk2 : k + uStore.n a < 2 ^ 50) (hk3 : wStore a < 2 ^ 50) :
    CallsB Try.prog 25 [.agg (vStore a), aI k] ⟨90, 3, a.lines.map rLine⟩ ⟨90, 3, (uStore.wr a k).lines.map rLine⟩ (aI (k + uStore.n a)) := by
  refine PrunB c_laws_markStore (by simp [r_laws_markStore]) (by simp) ?_
  unfold k_laws_markStore r_laws_markStore
  simp only [uStore_n, wStore] at hk2 hk3
  obtain ⟨p0, hq0⟩ : ∃ p : Int, p = k + (mLine.nL a.lines : Int) := ⟨_, rfl⟩
  have nn0 : ¬ p0 < 0 := by omega
  simp only [uStore_wr, ← hq0]
  simp [vStore, nn0]
  have hc0 := h_markLineS 90 a.lines k (by omega) (by omega) (by omega)
  simp only [← hq0] at hc0
  refine callRG_F hc0 rfl rfl (by simp) (by simp) ?_
  simp [nn0]
  try omega
end Go.Am
-- inth
namespace Go.Am
open Go.Proofs
set_option maxHeartbeats 4000000
-- 21 loop.example/g00485/laws.heldIntS
def k_laws_heldIntS : K :=
 .seq (
  .reg none [⟨(some 4), none, .asn (.c (.int .i64 (0)))⟩]) (
 .seq (
  .seq (
   .reg none [⟨(some 5), none, .asn (.c (.int .i64 (0)))⟩]) (
  .block 0 (
   .loop (some ([0, 1, 5], [0, 1, 5, 1000])) (
    .seq (
     .seq (
      .reg none [⟨(some 6), none, .mv (.t 5)⟩,
        ⟨(some 7), none, .mv (.t 0)⟩,
        ⟨(some 8), none, .len (.t 7)⟩,
        ⟨(some 9), none, .bin .lss (.t 6) (.t 8)⟩]) (
     .cond (.t 9) (
      .skip) (
      .exit 0))) (
    .seq (
     .block 1 (
      .seq (
       .seq (
        .reg none [⟨(some 12), none, .mv (.t 0)⟩,
          ⟨(some 13), none, .mv (.t 5)⟩,
          ⟨(some 14), none, .iad 1 (.t 12) (.t 13)⟩,
          ⟨(some 15), none, .ld 1 false (.t 14)⟩,
          ⟨(some 16), none, .mv (.t 1)⟩,
          ⟨(some 17), none, .bin .neq (.t 15) (.t 16)⟩]) (
       .cond (.t 17) (
        .seq (
         .reg none [⟨(some 4), none, .asn (.c (.int .i64 (-1)))⟩]) (
        .ret)) (
        .skip))) (
      .reg none [⟨(some 18), none, .mv (.t 1)⟩,
        ⟨(some 19), none, .bin .add (.t 18) (.c (.int .i64 (1)))⟩,
        ⟨(some 1), none, .asn (.t 19)⟩]))) (
    .reg none [⟨(some 10), none, .mv (.t 5)⟩,
      ⟨(some 11), none, .bin .add (.t 10) (.c (.int .i64 (1)))⟩,
      ⟨(some 5), none, .asn (.t 11)⟩])))))) (
 .seq (
  .reg none [⟨(some 20), none, .mv (.t 1)⟩,
    ⟨(some 4), none, .asn (.t 20)⟩]) (
 .ret)))
def r_laws_heldIntS : Nat × List RV := (21, [.t 4])

theorem c_laws_heldIntS : cmpS PT PF PA (Try.prog.funcs[21]?) = some (r_laws_heldIntS.1, r_laws_heldIntS.2, stripK k_laws_heldIntS) := by kernel_rfl

theorem h_heldIntS (xs : List Int) (k : Int) (hk : 0 ≤ k) (hk2 : k + mI.nL xs < 2 ^ 50) : CallsF Try.prog 21 [.one (.ar false 0 1 ((mI.mkL xs k).map rI)), aI k] (aI (k + mI.nL xs)) := by
  refine Prun c_laws_heldIntS (by simp [r_laws_heldIntS]) (by simp) ?_
  unfold k_laws_heldIntS r_laws_heldIntS
  simp
  refine awp_loop (fun n σ => ∃ i : Nat, i ≤ xs.length ∧ n = xs.length - i ∧ σ = ⟨[(0, .one (.ar false 0 1 ((mI.mkL xs k).map rI))), (1, aI (mI.pos xs k i)), (5, aI i)], []⟩) (xs.length) ⟨0, by simp [Mk.pos_zero]⟩ ?_
  rintro n σ ⟨i, hi, rfl, rfl⟩
  have hn : (mI.nL xs : Int) = xs.length := by simp [mI_n]
  have hp1 : mI.pos xs k i ≤ k + mI.nL xs := Mk.pos_le hi
  have hp2 : k ≤ mI.pos xs k i := Mk.pos_ge
  by_cases h : i < xs.length
  · have hpst : mI.pos xs k (i + 1) = mI.pos xs k i + 1 := Mk.pos_step h
    have hle : mI.pos xs k (i + 1) ≤ k + mI.nL xs := Mk.pos_le h
    have w1 : IntKind.i64.wrap (mI.pos xs k i + 1) = mI.pos xs k (i + 1) := by rw [wrapI (by omega) (by omega), hpst]
    have w2 : IntKind.i64.wrap ((i : Int) + 1) = i + 1 := wrapI (by omega) (by omega)
    simp [h, Mk.mkL_at h, w1, w2]
    exact ⟨xs.length - (i + 1), by omega, i + 1, by omega, rfl, by simp⟩
  · have : i = xs.length := by omega
    subst this
    simp [Mk.pos_all]
end Go.Am
-- Conf_hd
namespace Go.Am
open Go.Proofs
set_option maxHeartbeats 4000000
-- 73 loop.example/g00485/laws.heldConfS
def k_laws_heldConfS : K :=
 .seq (
  .reg none [⟨(some 4), none, .asn (.c (.int .i64 (0)))⟩]) (
 .seq (
  .seq (
   .reg none [⟨(some 5), none, .asn (.c (.int .i64 (0)))⟩]) (
  .block 0 (
   .loop (some ([0, 1, 5], [0, 1, 5, 1000])) (
    .seq (
     .seq (
      .reg none [⟨(some 6), none, .mv (.t 5)⟩,
        ⟨(some 7), none, .mv (.t 0)⟩,
        ⟨(some 8), none, .len (.t 7)⟩,
        ⟨(some 9), none, .bin .lss (.t 6) (.t 8)⟩]) (
     .cond (.t 9) (
      .skip) (
      .exit 0))) (
    .seq (
     .block 1 (
      .seq (
       .seq (
        .reg none [⟨(some 12), none, .mv (.t 0)⟩,
          ⟨(some 13), none, .mv (.t 5)⟩,
          ⟨(some 14), none, .iad 2 (.t 12) (.t 13)⟩,
          ⟨(some 15), none, .fad 0 (.t 14)⟩,
          ⟨(some 16), none, .ld 1 false (.t 15)⟩,
          ⟨(some 17), none, .mv (.t 1)⟩,
          ⟨(some 18), none, .bin .neq (.t 16) (.t 17)⟩]) (
       .cond (.t 18) (
        .seq (
         .reg none [⟨(some 4), none, .asn (.c (.int .i64 (-1)))⟩]) (
        .ret)) (
        .skip))) (
      .seq (
       .reg none [⟨(some 19), none, .mv (.t 1)⟩,
         ⟨(some 20), none, .bin .add (.t 19) (.c (.int .i64 (1)))⟩,
         ⟨(some 1), none, .asn (.t 20)⟩]) (
      .seq (
       .reg none [⟨(some 21), none, .mv (.t 0)⟩,
         ⟨(some 22), none, .mv (.t 5)⟩,
         ⟨(some 23), none, .iad 2 (.t 21) (.t 22)⟩,
         ⟨(some 24), none, .fad 1 (.t 23)⟩,
         ⟨(some 25), none, .ld 1 false (.t 24)⟩,
         ⟨(some 26), none, .mv (.t 1)⟩,
         ⟨(some 27), none, .call 21 [(.t 25), (.t 26)]⟩,
         ⟨(some 1), none, .asn (.t 27)⟩]) (
      .seq (
       .reg none [⟨(some 28), none, .mv (.t 1)⟩,
         ⟨(some 29), none, .bin .lss (.t 28) (.c (.int .i64 (0)))⟩]) (
      .cond (.t 29) (
       .seq (
        .reg none [⟨(some 4), none, .asn (.c (.int .i64 (-1)))⟩]) (
       .ret)) (
       .skip))))))) (
    .reg none [⟨(some 10), none, .mv (.t 5)⟩,
      ⟨(some 11), none, .bin .add (.t 10) (.c (.int .i64 (1)))⟩,
      ⟨(some 5), none, .asn (.t 11)⟩])))))) (
 .seq (
  .reg none [⟨(some 30), none, .mv (.t 1)⟩,
    ⟨(some 4), none, .asn (.t 30)⟩]) (
 .ret)))
def r_laws_heldConfS : Nat × List RV := (31, [.t 4])

theorem c_laws_heldConfS : cmpS PT PF PA (Try.prog.funcs[73]?) = some (r_laws_heldConfS.1, r_laws_heldConfS.2, stripK k_laws_heldConfS) := by kernel_rfl

theorem h_heldConfS (xs : List TConf) (k : Int) (hk : 0 ≤ k) (hk2 : k + mConf.nL xs < 2 ^ 50) (hk3 : wL wConf xs < 2 ^ 50) : CallsF Try.prog 73 [.one (.ar false 0 2 ((mConf.mkL xs k).map sConf)), aI k] (aI (k + mConf.nL xs)) := by
  refine Prun c_laws_heldConfS (by simp [r_laws_heldConfS]) (by simp) ?_
  unfold k_laws_heldConfS r_laws_heldConfS
  have hlen := wL_len wConf xs
  simp
  refine awp_loop (fun n σ => ∃ i : Nat, i ≤ xs.length ∧ n = xs.length - i ∧ σ = ⟨[(0, .one (.ar false 0 2 ((mConf.mkL xs k).map sConf))), (1, aI (mConf.pos xs k i)), (5, aI i)], []⟩) (xs.length) ⟨0, by simp [Mk.pos_zero]⟩ ?_
  rintro n σ ⟨i, hi, rfl, rfl⟩
  have hp1 : mConf.pos xs k i ≤ k + mConf.nL xs := Mk.pos_le hi
  have hp2 : k ≤ mConf.pos xs k i := Mk.pos_ge
  by_cases h : i < xs.length
  · have hw := wL_get wConf xs i h
    have hpst : mConf.pos xs k (i + 1) = mConf.pos xs k i + mConf.n xs[i] := Mk.pos_step h
    have hle : mConf.pos xs k (i + 1) ≤ k + mConf.nL xs := Mk.pos_le h
    have hga := Mk.mkL_at (M := mConf) (k := k) h
    generalize hκ : mConf.pos xs k i = p0 at *
    rcases ha : xs[i] with ⟨balt, brow⟩
    simp only [ha, mConf_n, mConf_wr] at hpst hga
    simp only [ha, wConf] at hw
    obtain ⟨p1, hq1⟩ : ∃ p : Int, p = p0 + 1 := ⟨_, rfl⟩
    have ww0 : IntKind.i64.wrap (p0 + 1) = p1 := by rw [wrapI (by omega) (by omega), hq1]
    have nn0 : ¬ p1 < 0 := by omega
    obtain ⟨p2, hq2⟩ : ∃ p : Int, p = p1 + (mI.nL brow : Int) := ⟨_, rfl⟩
    have nn1 : ¬ p2 < 0 := by omega
    simp only [← hq1, ← hq2] at hga
    simp [h, hga, sConf, ww0, nn0, nn1]
    have hc1 := h_heldIntS brow p1 (by omega) (by omega)
    rw [← hq2] at hc1
    refine callG_F hc1 (by simp) ?_
    simp [h, hga, sConf, ww0, nn0, nn1]
    refine ⟨xs.length - (i + 1), by omega, i + 1, by omega, rfl, ?_⟩
    rw [wrapI (by omega) (by omega)]
    simp; omega
  · have : i = xs.length := by omega
    subst this
    simp [Mk.pos_all]
end Go.Am
-- Line_hd
namespace Go.Am
open Go.Proofs
set_option maxHeartbeats 4000000
-- 50 loop.example/g00485/laws.heldLineS
def k_laws_heldLineS : K :=
 .seq (
  .reg none [⟨(some 4), none, .asn (.c (.int .i64 (0)))⟩]) (
 .seq (
  .seq (
   .reg none [⟨(some 5), none, .asn (.c (.int .i64 (0)))⟩]) (
  .block 0 (
   .loop (some ([0, 1, 5], [0, 1, 5, 1000])) (
    .seq (
     .seq (
      .reg none [⟨(some 6), none, .mv (.t 5)⟩,
        ⟨(some 7), none, .mv (.t 0)⟩,
        ⟨(some 8), none, .len (.t 7)⟩,
        ⟨(some 9), none, .bin .lss (.t 6) (.t 8)⟩]) (
     .cond (.t 9) (
      .skip) (
      .exit 0))) (
    .seq (
     .block 1 (
      .seq (
       .reg none [⟨(some 12), none, .mv (.t 0)⟩,
         ⟨(some 13), none, .mv (.t 5)⟩,
         ⟨(some 14), none, .iad 3 (.t 12) (.t 13)⟩,
         ⟨(some 15), none, .fad 0 (.t 14)⟩,
         ⟨(some 16), none, .ld 1 false (.t 15)⟩,
         ⟨(some 17), none, .mv (.t 1)⟩,
         ⟨(some 18), none, .call 73 [(.t 16), (.t 17)]⟩,
         ⟨(some 1), none, .asn (.t 18)⟩]) (
      .seq (
       .seq (
        .reg none [⟨(some 19), none, .mv (.t 1)⟩,
          ⟨(some 20), none, .bin .lss (.t 19) (.c (.int .i64 (0)))⟩]) (
       .cond (.t 20) (
        .seq (
         .reg none [⟨(some 4), none, .asn (.c (.int .i64 (-1)))⟩]) (
        .ret)) (
        .skip))) (
      .seq (
       .seq (
        .reg none [⟨(some 21), none, .mv (.t 0)⟩,
          ⟨(some 22), none, .mv (.t 5)⟩,
          ⟨(some 23), none, .iad 3 (.t 21) (.t 22)⟩,
          ⟨(some 24), none, .fad 1 (.t 23)⟩,
          ⟨(some 25), none, .ld 1 false (.t 24)⟩,
          ⟨(some 26), none, .mv (.t 1)⟩,
          ⟨(some 27), none, .bin .neq (.t 25) (.t 26)⟩]) (
       .cond (.t 27) (
        .seq (
         .reg none [⟨(some 4), none, .asn (.c (.int .i64 (-1)))⟩]) (
        .ret)) (
        .skip))) (
      .seq (
       .reg none [⟨(some 28), none, .mv (.t 1)⟩,
         ⟨(some 29), none, .bin .add (.t 28) (.c (.int .i64 (1)))⟩,
         ⟨(some 1), none, .asn (.t 29)⟩]) (
      .seq (
       .reg none [⟨(some 30), none, .mv (.t 0)⟩,
         ⟨(some 31), none, .mv (.t 5)⟩,
         ⟨(some 32), none, .iad 3 (.t 30) (.t 31)⟩,
         ⟨(some 33), none, .fad 2 (.t 32)⟩,
         ⟨(some 34), none, .ld 1 false (.t 33)⟩,
         ⟨(some 35), none, .mv (.t 1)⟩,
         ⟨(some 36), none, .call 73 [(.t 34), (.t 35)]⟩,
         ⟨(some 1), none, .asn (.t 36)⟩]) (
      .seq (
       .reg none [⟨(some 37), none, .mv (.t 1)⟩,
         ⟨(some 38), none, .bin .lss (.t 37) (.c (.int .i64 (0)))⟩]) (
      .cond (.t 38) (
       .seq (
        .reg none [⟨(some 4), none, .asn (.c (.int .i64 (-1)))⟩]) (
       .ret)) (
       .skip))))))))) (
    .reg none [⟨(some 10), none, .mv (.t 5)⟩,
      ⟨(some 11), none, .bin .add (.t 10) (.c (.int .i64 (1)))⟩,
      ⟨(some 5), none, .asn (.t 11)⟩])))))) (
 .seq (
  .reg none [⟨(some 39), none, .mv (.t 1)⟩,
    ⟨(some 4), none, .asn (.t 39)⟩]) (
 .ret)))
def r_laws_heldLineS : Nat × List RV := (40, [.t 4])

theorem c_laws_heldLineS : cmpS PT PF PA (Try.prog.funcs[50]?) = some (r_laws_heldLineS.1, r_laws_heldLineS.2, stripK k_laws_heldLineS) := by kernel_rfl

theorem h_heldLineS (xs : List TLine) (k : Int) (hk : 0 ≤ k) (hk2 : k + mLine.nL xs < 2 ^ 50) (hk3 : wL wLine xs < 2 ^ 50) : CallsF Try.prog 50 [.one (.ar false 0 3 ((mLine.mkL xs k).map sLine)), aI k] (aI (k + mLine.nL xs)) := by
  refine Prun c_laws_heldLineS (by simp [r_laws_heldLineS]) (by simp) ?_
  unfold k_laws_heldLineS r_laws_heldLineS
  have hlen := wL_len wLine xs
  simp
  refine awp_loop (fun n σ => ∃ i : Nat, i ≤ xs.length ∧ n = xs.length - i ∧ σ = ⟨[(0, .one (.ar false 0 3 ((mLine.mkL xs k).map sLine))), (1, aI (mLine.pos xs k i)), (5, aI i)], []⟩) (xs.length) ⟨0, by simp [Mk.pos_zero]⟩ ?_
  rintro n σ ⟨i, hi, rfl, rfl⟩
  have hp1 : mLine.pos xs k i ≤ k + mLine.nL xs := Mk.pos_le hi
  have hp2 : k ≤ mLine.pos xs k i := Mk.pos_ge
  by_cases h : i < xs.length
  · have hw := wL_get wLine xs i h
    have hpst : mLine.pos xs k (i + 1) = mLine.pos xs k i + mLine.n xs[i] := Mk.pos_step h
    have hle : mLine.pos xs k (i + 1) ≤ k + mLine.nL xs := Mk.pos_le h
    have hga := Mk.mkL_at (M := mLine) (k := k) h
    generalize hκ : mLine.pos xs k i = p0 at *
    rcases ha : xs[i] with ⟨bfrm, bletter, btoo⟩
    simp only [ha, mLine_n, mLine_wr] at hpst hga
    simp only [ha, wLine] at hw
    obtain ⟨p1, hq1⟩ : ∃ p : Int, p = p0 + (mConf.nL bfrm : Int) := ⟨_, rfl⟩
    have nn0 : ¬ p1 < 0 := by omega
    obtain ⟨p2, hq2⟩ : ∃ p : Int, p = p1 + 1 := ⟨_, rfl⟩
    have ww1 : IntKind.i64.wrap (p1 + 1) = p2 := by rw [wrapI (by omega) (by omega), hq2]
    have nn1 : ¬ p2 < 0 := by omega
    obtain ⟨p3, hq3⟩ : ∃ p : Int, p = p2 + (mConf.nL btoo : Int) := ⟨_, rfl⟩
    have nn2 : ¬ p3 < 0 := by omega
    simp only [← hq1, ← hq2, ← hq3] at hga
    simp [h, hga, sLine, nn0, ww1, nn1, nn2]
    have hc0 := h_heldConfS bfrm p0 (by omega) (by omega) (by omega)
    rw [← hq1] at hc0
    refine callG_F hc0 (by simp) ?_
    simp [h, hga, sLine, nn0, ww1, nn1, nn2]
    have hc2 := h_heldConfS btoo p2 (by omega) (by omega) (by omega)
    rw [← hq3] at hc2
    refine callG_F hc2 (by simp) ?_
    simp [h, hga, sLine, nn0, ww1, nn1, nn2]
    refine ⟨xs.length - (i + 1), by omega, i + 1, by omega, rfl, ?_⟩
    rw [wrapI (by omega) (by omega)]
    simp; omega
  · have : i = xs.length := by omega
    subst this
    simp [Mk.pos_all]
end Go.Am
-- Store_hd1
namespace Go.Am
open Go.Proofs
set_option maxHeartbeats 4000000
-- 26 loop.example/g00485/laws.heldStore
def k_laws_heldStore : K :=
 .seq (
  .reg none [⟨(some 2), none, .box 38 2 (.t 0)⟩,
    ⟨(some 4), none, .asn (.c (.int .i64 (0)))⟩]) (
 .seq (
  .reg none [⟨(some 5), none, .fad 1 (.t 2)⟩,
    ⟨(some 6), none, .ld 1 false (.t 5)⟩,
    ⟨(some 7), none, .mv (.t 1)⟩,
    ⟨(some 8), none, .call 50 [(.t 6), (.t 7)]⟩,
    ⟨(some 1), none, .asn (.t 8)⟩]) (
 .seq (
  .seq (
   .reg none [⟨(some 9), none, .mv (.t 1)⟩,
     ⟨(some 10), none, .bin .lss (.t 9) (.c (.int .i64 (0)))⟩]) (
  .cond (.t 10) (
   .seq (
    .reg none [⟨(some 4), none, .asn (.c (.int .i64 (-1)))⟩]) (
   .ret)) (
   .skip))) (
 .seq (
  .reg none [⟨(some 11), none, .mv (.t 1)⟩,
    ⟨(some 4), none, .asn (.t 11)⟩]) (
 .ret))))
def r_laws_heldStore : Nat × List RV := (12, [.t 4])

theorem c_laws_heldStore : cmpS PT PF PA (Try.prog.funcs[26]?) = some (r_laws_heldStore.1, r_laws_heldStore.2, stripK k_laws_heldStore) := by kernel_rfl

theorem h_heldStore (a : TStore) (k : Int) (hk : 0 ≤ k) (hk2 : k + uStore.n a < 2 ^ 50) (hk3 : wStore a < 2 ^ 50) : CallsF Try.prog 26 [.agg (sStore (uStore.wr a k)), aI k] (aI (k + uStore.n a)) := by
  refine Prun c_laws_heldStore (by simp [r_laws_heldStore]) (by simp) ?_
  unfold k_laws_heldStore r_laws_heldStore
  simp only [uStore_n, wStore] at hk2 hk3
  obtain ⟨p0, hq0⟩ : ∃ p : Int, p = k + (mLine.nL a.lines : Int) := ⟨_, rfl⟩
  have nn0 : ¬ p0 < 0 := by omega
  simp only [uStore_wr, ← hq0]
  simp [sStore, nn0]
  have hc0 := h_heldLineS a.lines k (by omega) (by omega) (by omega)
  simp only [← hq0] at hc0
  refine callG_F hc0 (by simp) ?_
  simp [nn0]
  try omega
end Go.Am
-- L_StoreNew
namespace Go.Am
open Go.Proofs
set_option maxHeartbeats 4000000
-- 5 loop.example/g00485/laws.FnExactStoreNew
def k_laws_FnExactStoreNew : K :=
 .seq (
  .reg none [⟨(some 2), none, .asn (.c (.bool false))⟩]) (
 .seq (
  .reg none [⟨(some 12), none, .mv (.t 0)⟩,
    ⟨(some 13), none, .call 22 [(.t 12)]⟩,
    ⟨(some 11), none, .mv (.t 13)⟩,
    ⟨(some 14), none, .ext 0 (.t 11)⟩,
    ⟨(some 15), none, .ext 1 (.t 11)⟩,
    ⟨(some 3), none, .alc 38 2 [(.int .i64 (0)), (.ar true 90 3 [])]⟩,
    ⟨none, none, .st 2 false (.t 3) (.t 14)⟩,
    ⟨(some 4), none, .asn (.t 15)⟩]) (
 .seq (
  .reg none [⟨(some 17), none, .mv (.t 0)⟩,
    ⟨(some 18), none, .call 23 [(.t 17)]⟩,
    ⟨(some 16), none, .mv (.t 18)⟩,
    ⟨(some 19), none, .ext 0 (.t 16)⟩,
    ⟨(some 20), none, .ext 1 (.t 16)⟩,
    ⟨(some 5), none, .alc 38 2 [(.int .i64 (0)), (.ar true 90 3 [])]⟩,
    ⟨none, none, .st 2 false (.t 5) (.t 19)⟩,
    ⟨(some 6), none, .asn (.t 20)⟩]) (
 .seq (
  .seq (
   .reg none [⟨(some 21), none, .ld 2 true (.t 5)⟩,
     ⟨(some 22), none, .ld 2 true (.t 3)⟩,
     ⟨(some 23), none, .call 24 [(.t 21), (.t 22)]⟩,
     ⟨(some 24), none, .not (.t 23)⟩,
     ⟨(some 25), none, .mv (.t 24)⟩,
     ⟨(some 26), (some (25, false)), .mv (.t 6)⟩,
     ⟨(some 27), (some (25, false)), .mv (.t 4)⟩,
     ⟨(some 28), (some (25, false)), .beq true (.t 26) (.t 27)⟩,
     ⟨(some 29), none, .pick (.t 25) (.c (.bool true)) (.t 28)⟩]) (
  .cond (.t 29) (
   .seq (
    .reg none [⟨(some 2), none, .asn (.c (.bool false))⟩]) (
   .ret)) (
   .skip))) (
 .seq (
  .reg none [⟨(some 7), none, .asn (.c (.int .i64 (1)))⟩]) (
 .seq (
  .reg none [⟨(some 30), none, .ld 2 true (.t 5)⟩,
    ⟨(some 31), none, .mv (.t 7)⟩,
    ⟨(some 32), none, .callr 25 (.t 30) [(.t 30), (.t 31)]⟩,
    ⟨(some 7), none, .asn (.t 32)⟩]) (
 .seq (
  .reg none [⟨(some 8), none, .asn (.c (.int .i64 (1)))⟩]) (
 .seq (
  .reg none [⟨(some 33), none, .ld 2 true (.t 5)⟩,
    ⟨(some 34), none, .mv (.t 8)⟩,
    ⟨(some 35), none, .call 26 [(.t 33), (.t 34)]⟩,
    ⟨(some 8), none, .asn (.t 35)⟩]) (
 .seq (
  .seq (
   .reg none [⟨(some 36), none, .mv (.t 8)⟩,
     ⟨(some 37), none, .bin .lss (.t 36) (.c (.int .i64 (0)))⟩]) (
  .cond (.t 37) (
   .seq (
    .reg none [⟨(some 2), none, .asn (.c (.bool false))⟩]) (
   .ret)) (
   .skip))) (
 .seq (
  .seq (
   .reg none [⟨(some 38), none, .mv (.t 8)⟩,
     ⟨(some 39), none, .mv (.t 7)⟩,
     ⟨(some 40), none, .bin .neq (.t 38) (.t 39)⟩]) (
  .cond (.t 40) (
   .seq (
    .reg none [⟨(some 2), none, .asn (.c (.bool false))⟩]) (
   .ret)) (
   .skip))) (
 .seq (
  .reg none [⟨(some 42), none, .mv (.t 0)⟩,
    ⟨(some 43), none, .call 23 [(.t 42)]⟩,
    ⟨(some 41), none, .mv (.t 43)⟩,
    ⟨(some 44), none, .ext 0 (.t 41)⟩,
    ⟨(some 45), none, .ext 1 (.t 41)⟩,
    ⟨(some 9), none, .alc 38 2 [(.int .i64 (0)), (.ar true 90 3 [])]⟩,
    ⟨none, none, .st 2 false (.t 9) (.t 44)⟩,
    ⟨(some 10), none, .asn (.t 45)⟩]) (
 .seq (
  .seq (
   .reg none [⟨(some 46), none, .ld 2 true (.t 9)⟩,
     ⟨(some 47), none, .ld 2 true (.t 3)⟩,
     ⟨(some 48), none, .call 24 [(.t 46), (.t 47)]⟩,
     ⟨(some 49), none, .not (.t 48)⟩,
     ⟨(some 50), none, .mv (.t 49)⟩,
     ⟨(some 51), (some (50, false)), .mv (.t 10)⟩,
     ⟨(some 52), (some (50, false)), .mv (.t 4)⟩,
     ⟨(some 53), (some (50, false)), .beq true (.t 51) (.t 52)⟩,
     ⟨(some 54), none, .pick (.t 50) (.c (.bool true)) (.t 53)⟩]) (
  .cond (.t 54) (
   .seq (
    .reg none [⟨(some 2), none, .asn (.c (.bool false))⟩]) (
   .ret)) (
   .skip))) (
 .seq (
  .reg none [⟨(some 8), none, .asn (.c (.int .i64 (1)))⟩]) (
 .seq (
  .reg none [⟨(some 55), none, .ld 2 true (.t 5)⟩,
    ⟨(some 56), none, .mv (.t 8)⟩,
    ⟨(some 57), none, .call 26 [(.t 55), (.t 56)]⟩,
    ⟨(some 8), none, .asn (.t 57)⟩]) (
 .seq (
  .seq (
   .reg none [⟨(some 58), none, .mv (.t 8)⟩,
     ⟨(some 59), none, .bin .lss (.t 58) (.c (.int .i64 (0)))⟩]) (
  .cond (.t 59) (
   .seq (
    .reg none [⟨(some 2), none, .asn (.c (.bool false))⟩]) (
   .ret)) (
   .skip))) (
 .seq (
  .seq (
   .reg none [⟨(some 60), none, .mv (.t 8)⟩,
     ⟨(some 61), none, .mv (.t 7)⟩,
     ⟨(some 62), none, .bin .neq (.t 60) (.t 61)⟩]) (
  .cond (.t 62) (
   .seq (
    .reg none [⟨(some 2), none, .asn (.c (.bool false))⟩]) (
   .ret)) (
   .skip))) (
 .seq (
  .reg none [⟨(some 2), none, .asn (.c (.bool true))⟩]) (
 .ret)))))))))))))))))
def r_laws_FnExactStoreNew : Nat × List RV := (63, [.t 2])

theorem c_laws_FnExactStoreNew : cmpS PT PF PA (Try.prog.funcs[5]?) = some (r_laws_FnExactStoreNew.1, r_laws_FnExactStoreNew.2, stripK k_laws_FnExactStoreNew) := by kernel_rfl

theorem h_law_StoreNew (n : Int) : CallsF Try.prog 5 [aI n] (aB true) := by
  refine Prun c_laws_FnExactStoreNew (by simp [r_laws_FnExactStoreNew]) (by simp) ?_
  unfold k_laws_FnExactStoreNew r_laws_FnExactStoreNew
  obtain ⟨st, hst⟩ : ∃ st, st = storeNew n := ⟨_, rfl⟩
  have hl : st.lines = [] := by rw [hst]; unfold storeNew; split <;> rfl
  have hw : wStore st = 0 := by simp [wStore, hl, wL]
  have hu : uStore.n st = 0 := by simp [hl, Mk.nL]
  have hs := h_spec_StoreNew n
  have hi := h_impl_StoreNew n
  rw [← hst] at hs hi
  have he := h_eqStore st (by omega)
  have hm := h_markStore st 1 (by omega) (by omega) (by omega)
  have hh := h_heldStore st 1 (by omega) (by omega) (by omega)
  rw [hu] at hm hh
  simp
  refine callG_F hs (by simp) ?_
  simp [rStore]
  refine callG_F hi (by simp) ?_
  simp [rStore]
  refine callG_F he (by simp) ?_
  simp
  refine callRG_F hm rfl rfl (by simp) (by simp) ?_
  simp
  refine callG_F hh (by simp) ?_
  simp
  refine callG_F hi (by simp) ?_
  simp [rStore]
  refine callG_F he (by simp) ?_
  simp
  refine callG_F hh (by simp) ?_
  simp
end Go.Am
-- B_FnExactStoreNew
namespace Go.Am
open Go.Proofs
set_option maxHeartbeats 4000000
open Go.ChangeShapes Go.WideShapes Go.ChangeAt Go.RowKit Go.Proofs.Ythkjmplgdceajaa
theorem own_FnExactStoreNew : ownKnob Try.prog.godebug = none := by kernel_rfl
theorem laidOut_FnExactStoreNew : laidOutB Try.prog = true := by kernel_rfl
set_option maxRecDepth 100000 in
theorem lifted_FnExactStoreNew (os : Os) (started : os.Started) (H : Type) (enc : TypeId × Value → H) :
    ReturnsInHanded {} Try.checked os 5 .any (Rows.fnExactStoreNewSpec.pre6 enc Try.prog Try.f5 Rows.fnExactStoreNewRow.domain false) (Rows.fnExactStoreNewSpec.post enc Try.prog Try.f5 false true false false) := by
  refine returnsInHanded_of_change (C := Try.checked) own_FnExactStoreNew started (by kernel_rfl) Try.func5
    (ChangeSpec.witness6 (enc := enc) (C := Try.checked) false ⟨#[], #[.int .i64 0], []⟩ 8 (by kernel_rfl) (by kernel_rfl) (by kernel_rfl) (by kernel_rfl)) ?_
  intro W base args ds gs before hval0 hW hcnd _
  have hval : ∀ (j : Nat) t v, Try.f5.params[j]? = some t → args[j]? = some v → Value.okWide Try.prog W .any base t v := hval0
  have hW' := hW
  obtain ⟨p, q, hA0, hV, rfl, hfz, hnd⟩ := hW
  have hA : DataW.TrodAll enc Try.prog W 0 (fun _ => true) true Try.f5.params.toList args.toList ds p := hA0
  rw [Try.params5] at hA hval
  obtain ⟨v0, d0, rfl, rfl, h0⟩ := trodAll_one hA
  obtain ⟨rfl, rfl⟩ := trodVars_none hV
  have hV0 : ∀ (W' : World) (sp : Nat → Bool), DataW.TrodVars enc Try.checked.prog W' sp Rows.fnExactStoreNewSpec.vars ([] : List (DataW H)) [] := fun _ _ => by first | rfl | trivial | exact ⟨rfl, rfl⟩ | exact ⟨_, rfl, rfl⟩
  obtain ⟨a0, rfl, rfl, rfl, wa0⟩ := open_int Try.underlying3 (hval 0 3 v0 rfl rfl) h0
  clear hA0 hval0
  simp only [List.append_nil] at hW'
  refine (below_of (h_law_StoreNew a0) (fun _ _ _ _ h => h.1) W [.int .i64 a0] (by simp [aI, A.ref, C.ref, refCs]) ⟨_, _, fz, fz, rfl, (add_fz _).symm, ⟨rfl, rfl⟩, ⟨rfl, rfl⟩⟩ rfl).mono fun e W' ⟨he, hw⟩ => ?_
  subst he
  exact ⟨_, rfl, _, _, _, [], [], [], by simpa using hW', trodAll_mk1 (shut_bool Try.underlying4 true), trodAll_mk1 (shut_int Try.underlying3 wa0), hV0 _ _, hw.frame _, fun h => by cases h⟩
theorem holds_FnExactStoreNew : Rows.FnExactStoreNewSaid :=
  OpenClaim.holds_of_wide 5 Try.f5 rfl rfl rfl rfl rfl rfl rfl ⟨rfl, rfl, rfl, rfl, rfl⟩ rfl rfl rfl rfl rfl (by kernel_rfl) Try.func5 (by kernel_rfl)
    (of_decide_eq_true (by kernel_rfl)) (by unfold Func.isWrapper; first | (rw [if_pos (by decide +kernel)]; kernel_rfl) | (rw [if_neg (by decide +kernel)]; exact ⟨rfl, rfl⟩))
    (fun os started H enc _ => lifted_FnExactStoreNew os started H enc)
#print axioms holds_FnExactStoreNew
end Go.Am
namespace Go.Proofs.Ythkjmplgdceajaa
theorem fnExactStoreNew_holds : Rows.FnExactStoreNewSaid := Go.Am.holds_FnExactStoreNew
end Go.Proofs.Ythkjmplgdceajaa
