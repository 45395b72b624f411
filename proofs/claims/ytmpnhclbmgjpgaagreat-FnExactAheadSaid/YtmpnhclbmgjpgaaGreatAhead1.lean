/- Text 1 of 45 for FnExactAhead: codes of the functions that it reaches (each read from a number by dc, and held against the program by kernel_rfl) and their contracts over trees. No condition. -/
import Derived.Test.YtmpnhclbmgjpgaaGreatAheadF6
import Derived.Test.YtmpnhclbmgjpgaaGreatProg
set_option linter.unusedVariables false
set_option linter.unusedSimpArgs false
namespace Go.Am
open Go.Proofs
noncomputable def PT:List (Nat×TI):=mkT Tryz.prog (List.range 400)
noncomputable def PF:List Nat:=mkF Tryz.prog (List.range 337)
def z01 (a:An) (f:Nat) (r:Nat×List RV) (k:K):Prop:=cmpS PT PF a (Tryz.prog.funcs[f]?)=some (r.1,r.2,x0b k)
def PA:An:=⟨[],false,true,[(67,0),(68,0),(70,0),(73,0),(74,0),(79,1),(112,0),(113,0),(118,0),(120,0),(135,0),(145,0),(167,0),(168,0),(178,0),(187,0),(188,0),(194,0),(212,0),(217,0),(230,0),(248,0),(249,0),(250,0),(256,0),(257,0),(258,0),(261,0),(267,0),(282,0),(289,0),(290,0),(297,0),(298,0),(307,0),(308,0),(312,0),(313,0),(316,0)],false,[(56,1),(80,1),(119,1),(131,3),(174,3),(189,1),(203,2),(204,3),(205,3),(226,1),(235,2),(265,3),(282,1)],[(91,[5])],[(26,[0,1]),(32,[0,2]),(68,[1]),(74,[1]),(79,[3]),(112,[1]),(130,[0]),(167,[1]),(217,[1])],false,false,[93,254],false⟩
def PB:An:=⟨[],false,true,[(67,0),(68,0),(70,0),(73,0),(74,0),(79,1),(112,0),(113,0),(118,0),(120,0),(135,0),(145,0),(167,0),(168,0),(178,0),(187,0),(188,0),(194,0),(212,0),(217,0),(230,0),(248,0),(249,0),(250,0),(256,0),(257,0),(258,0),(261,0),(267,0),(282,0),(289,0),(290,0),(297,0),(298,0),(307,0),(308,0),(312,0),(313,0),(316,0)],true,[(56,1),(80,1),(119,1),(131,3),(174,3),(189,1),(203,2),(204,3),(205,3),(226,1),(235,2),(265,3),(282,1)],[(91,[5])],[(26,[0,1]),(32,[0,2]),(68,[1]),(74,[1]),(79,[3]),(112,[1]),(130,[0]),(167,[1]),(217,[1])],false,false,[93,254],false⟩
def PC:An:=⟨[],false,true,[(67,0),(68,0),(70,0),(73,0),(74,0),(79,1),(112,0),(113,0),(118,0),(120,0),(135,0),(145,0),(167,0),(168,0),(178,0),(187,0),(188,0),(194,0),(212,0),(217,0),(230,0),(248,0),(249,0),(250,0),(256,0),(257,0),(258,0),(261,0),(267,0),(282,0),(289,0),(290,0),(297,0),(298,0),(307,0),(308,0),(312,0),(313,0),(316,0)],false,[(56,1),(80,1),(119,1),(131,3),(174,3),(189,1),(203,2),(204,3),(205,3),(226,1),(235,2),(265,3),(282,1)],[(91,[5])],[(26,[0,1]),(32,[0,2]),(68,[1]),(74,[1]),(79,[3]),(112,[1]),(130,[0]),(167,[1]),(217,[1])],true,false,[93,254],false⟩
def PE:An:=⟨[],false,true,[(67,0),(68,0),(70,0),(73,0),(74,0),(79,1),(112,0),(113,0),(118,0),(120,0),(135,0),(145,0),(167,0),(168,0),(178,0),(187,0),(188,0),(194,0),(212,0),(217,0),(230,0),(248,0),(249,0),(250,0),(256,0),(257,0),(258,0),(261,0),(267,0),(282,0),(289,0),(290,0),(297,0),(298,0),(307,0),(308,0),(312,0),(313,0),(316,0)],false,[(56,1),(80,1),(119,1),(131,3),(174,3),(189,1),(203,2),(204,3),(205,3),(226,1),(235,2),(265,3),(282,1)],[(91,[5])],[(26,[0,1]),(32,[0,2]),(68,[1]),(74,[1]),(79,[3]),(112,[1]),(130,[0]),(167,[1]),(217,[1])],false,false,[93,254],true⟩
def PG:An:=⟨[],false,true,[(67,0),(68,0),(70,0),(73,0),(74,0),(79,1),(112,0),(113,0),(118,0),(120,0),(135,0),(145,0),(167,0),(168,0),(178,0),(187,0),(188,0),(194,0),(212,0),(217,0),(230,0),(248,0),(249,0),(250,0),(256,0),(257,0),(258,0),(261,0),(267,0),(282,0),(289,0),(290,0),(297,0),(298,0),(307,0),(308,0),(312,0),(313,0),(316,0)],false,[(56,1),(80,1),(119,1),(131,3),(174,3),(189,1),(203,2),(204,3),(205,3),(226,1),(235,2),(265,3),(282,1)],[(91,[5])],[(26,[0,1]),(32,[0,2]),(68,[1]),(74,[1]),(79,[3]),(112,[1]),(130,[0]),(167,[1]),(217,[1])],false,false,[93,254,298],false⟩
theorem Pmo:PA.mo=true→Tryz.prog.follows .mixedOrders=true:=fun _=>by kernel_rfl
theorem Prun {f:FuncId} {k:K} {r:Nat×List RV} {args:List A} {v:A} (hc:cmpS PT PF PA (Tryz.prog.funcs[f]?)=some (r.1,r.2,x0b k)) (hn:args.length≤r.1) (hn2:args.length≤1000)
 (h:awp Tryz.prog k (t0f r.2 fun a H=>H=[]∧a=v) (o0b args [])):z06 Tryz.prog f args v:=r00 (p0n _ _) (q0d _ _) PA Pmo hc hn hn2 h
theorem q03 {f:FuncId} {k:K} {r:Nat×List RV} {args:List A} {H:List (Nat×Obj)} {R:A→List (Nat×Obj)→Prop} (hc:cmpS PT PF PA (Tryz.prog.funcs[f]?)=some (r.1,r.2,x0b k)) (hn:args.length≤r.1) (hn2:args.length≤1000)
 (h:awp Tryz.prog k (t0f r.2 R) (o0b args H)):CallsA Tryz.prog f args H R:=o0a (p0n _ _) (q0d _ _) PA Pmo hc hn hn2 h
theorem x1k (f:Nat) (h:PF.contains f=true):FnOk Tryz.prog f:=n1c (q0d _ _) h
theorem PmoB:PB.mo=true→Tryz.prog.follows .mixedOrders=true:=fun _=>by kernel_rfl
theorem g06 {f:FuncId} {k:K} {r:Nat×List RV} {args:List A} {v:A} (hc:cmpS PT PF PB (Tryz.prog.funcs[f]?)=some (r.1,r.2,x0b k)) (hn:args.length≤r.1) (hn2:args.length≤1000)
 (h:awp Tryz.prog k (t0f r.2 fun a H=>H=[]∧a=v) (o0b args [])):z06 Tryz.prog f args v:=r00 (p0n _ _) (q0d _ _) PB PmoB hc hn hn2 h
theorem PmoC:PC.mo=true→Tryz.prog.follows .mixedOrders=true:=fun _=>by kernel_rfl
theorem PrunC {f:FuncId} {k:K} {r:Nat×List RV} {args:List A} {H:List (Nat×Obj)} {R:A→List (Nat×Obj)→Prop} (hc:cmpS PT PF PC (Tryz.prog.funcs[f]?)=some (r.1,r.2,x0b k)) (hn:args.length≤r.1) (hn2:args.length≤1000)
 (h:awp Tryz.prog k (t0f r.2 R) (o0b args H)):CallsA Tryz.prog f args H R:=o0a (p0n _ _) (q0d _ _) PC PmoC hc hn hn2 h
theorem g1t {f:FuncId} {k:K} {r:Nat×List RV} {args:List A} {v:A} (hc:cmpS PT PF PC (Tryz.prog.funcs[f]?)=some (r.1,r.2,x0b k)) (hn:args.length≤r.1) (hn2:args.length≤1000)
 (h:awp Tryz.prog k (t0f r.2 fun a H=>H=[]∧a=v) (o0b args [])):z06 Tryz.prog f args v:=r00 (p0n _ _) (q0d _ _) PC PmoC hc hn hn2 h
theorem PmoE:PE.mo=true→Tryz.prog.follows .mixedOrders=true:=fun _=>by kernel_rfl
theorem b07 {f:FuncId} {k:K} {r:Nat×List RV} {args:List A} {v:A} (hc:cmpS PT PF PE (Tryz.prog.funcs[f]?)=some (r.1,r.2,x0b k)) (hn:args.length≤r.1) (hn2:args.length≤1000)
 (h:awp Tryz.prog k (t0f r.2 fun a H=>H=[]∧a=v) (o0b args [])):z06 Tryz.prog f args v:=r00 (p0n _ _) (q0d _ _) PE PmoE hc hn hn2 h
theorem PmoG:PG.mo=true→Tryz.prog.follows .mixedOrders=true:=fun _=>by kernel_rfl
theorem g1u {f:FuncId} {k:K} {r:Nat×List RV} {args:List A} {v:A} (hc:cmpS PT PF PG (Tryz.prog.funcs[f]?)=some (r.1,r.2,x0b k)) (hn:args.length≤r.1) (hn2:args.length≤1000)
 (h:awp Tryz.prog k (t0f r.2 fun a H=>H=[]∧a=v) (o0b args [])):z06 Tryz.prog f args v:=r00 (p0n _ _) (q0d _ _) PG PmoG hc hn hn2 h
end Go.Am
namespace Go.Am
open Go.Proofs
set_option maxHeartbeats 4000000
set_option maxRecDepth 100000
attribute [-simp] BitVec.toNat_or BitVec.toNat_and BitVec.toNat_ofInt
end Go.Am
