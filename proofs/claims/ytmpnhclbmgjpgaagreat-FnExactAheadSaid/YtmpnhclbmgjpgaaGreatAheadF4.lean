/- FRAMEWORK, text 4: code, loops, calls, functions, and regions that ask for their order. Proved once, for every program; no condition. -/
import Derived.Test.YtmpnhclbmgjpgaaGreatAheadF3
import Derived.Deep.Quiet
import Derived.StillTail
import Derived.OrdersHeld
set_option linter.unusedVariables false
set_option linter.unusedSimpArgs false
namespace Go.Am
inductive K where
 | skip
 | seq (a b:K)
 | reg (keep:Option (List Nat×List Nat)) (is:List Ins)
 | drw (keep:Option (List Nat×List Nat)) (n:Nat) (is:List Ins)
 | grp (keep:Option (List Nat×List Nat)) (n:Nat) (qs gs:List Nat) (is:List Ins)
 | flt (keep:Option (List Nat×List Nat)) (d:Nat) (pre is:List Ins)
 | apd (keep:Option (List Nat×List Nat)) (ps:List Nat) (cs:List Nat) (is:List Ins)
 | two (keep:Option (List Nat×List Nat)) (pre is1 is2:List Ins)
 | cond (x:X) (a b:K)
 | block (id:Nat) (k:K)
 | loop (keep:Option (List Nat×List Nat)) (k:K)
 | exit (id:Nat)
 | ret
 | bad
 deriving Inhabited
inductive Ex where
 | n
 | x (id:Nat)
 | r
 deriving Inhabited
def sel {α:Type}:List Nat→List (Nat×α)→List (Nat×α)
 | [],_=>[]
 | k :: ks,l=>match look l k with
   | some a=>(k,a) :: sel ks (del l k)
   | none=>sel ks l
def j0a:I→Bool
 | .call .. =>true
 | .callr .. =>true
 | .callo .. =>true
 | .callv .. =>true
 | .calln .. =>true
 | .callz .. =>true
 | .callzr .. =>true
 | .callf .. =>true
 | .callrf .. =>true
 | .callro .. =>true
 | _=>false
def FnOk (P:Program) (f:Nat):Prop:=∃fn,P.funcs[f]?=some fn∧(fn.name == "runtime.NumGoroutine")=false∧fn.body.isNone=false
def frzT (σ:St) (n:Nat):Option St:=
 match v06 σ (.t n) with
 | some (.one c,σ0)=>match p0f σ0 (.one c) with
   | some (.one c',σ1)=>if c'.plain then some { tm:=put σ1.tm n (.one (shr c')),ob:=σ1.ob } else none
   | _=>none
 | some (.agg cs,σ0)=>match m0e σ0 cs with
   | some (cs',σ1)=>if cs'.all C.plain then some { tm:=put σ1.tm n (.agg (y04 cs')),ob:=σ1.ob } else none
   | none=>none
 | _=>none
def n1y (σ:St) (n:Nat):St:=match frzT σ n with
 | some σ'=>σ'
 | none=>σ
def u0p (keep:Option (List Nat×List Nat)) (σ:St):St:=
 match keep with
 | none=>σ
 | some (ks,os)=>if 1000000≤os.headD 0 then n1y σ (os.headD 0 - 1000000) else { tm:=sel ks σ.tm,ob:=sel os σ.ob }
def frzL (σ:St):List Nat→Option St
 | []=>some σ
 | n :: ns=>match frzT σ n with
   | some σ1=>frzL σ1 ns
   | none=>none
def opX (σ:St):X→St
 | .t n=>match look σ.tm n with
   | some (.one (.op t e cs))=>if n<1000 then c0e n (.one (.op t e cs)) { tm:=del σ.tm n,ob:=σ.ob } else σ
   | _=>σ
 | .c _=>σ
def p1u (P:Program) (d:Option Nat) (f:Nat) (xs:List X) (K:St→Prop):Option St→Prop
 | some σ1=>q0i P d f xs K σ1
 | none=>False
def w15 (P:Program) (d:Option Nat) (f:Nat) (ns:List Nat) (xs:List X) (K:St→Prop) (σ:St):Prop:=p1u P d f xs K (frzL σ ns)
def w16 (P:Program) (d:Option Nat) (f:Nat) (x:X) (xs:List X) (K:St→Prop):Option St→Prop
 | some σ1=>i09 P d f x xs K σ1
 | none=>False
def g0h (P:Program) (d:Option Nat) (f:Nat) (ns:List Nat) (x:X) (xs:List X) (K:St→Prop) (σ:St):Prop:=w16 P d f x xs K (frzL σ ns)
def n1d (K:St→Prop):Option St→Prop
 | some σ1=>K σ1
 | none=>False
def frzK (d:Option Nat) (K:St→Prop) (σ:St):Prop:=match d with
 | some n=>n1d K (frzT σ n)
 | none=>K σ
def g0g (P:Program) (d:Option Nat) (f:Nat) (xs:List X) (cap:List C) (K:St→Prop) (σ:St):Bool→Prop
 | false=>k0x P d f cap K (u0r σ xs)
 | true=>d0b P d f (o0m (l0a cap)) xs cap K σ
def k0z (P:Program) (d:Option Nat) (xs:List X) (K:St→Prop) (σ:St):Option A→Prop
 | some (.one (.fn f cap))=>FnOk P f∧g0g P d f xs cap K σ (x0f (fun _ _=>true) cap)
 | _=>False
def iwp0 (P:Program) (d:Option Nat) (i:I) (K:St→Prop) (σ:St):Prop:=
 match i with
 | .call f xs=>q0i P d f xs K σ
 | .callr f x xs=>i09 P d f x xs K (opX σ x)
 | .callo f k xs=>x1x P d f k xs K σ
 | .callv x xs=>k0z P d xs K σ (ev σ x)
 | .calln f js xs=>d0b P d f (o0m (p11 σ xs js)) xs [] K σ
 | .callz f ns xs=>w15 P d f ns xs K σ
 | .callzr f ns x xs=>g0h P d f ns x xs K σ
 | .callf f xs=>q0i P d f xs (frzK d K) σ
 | .callrf f x xs=>i09 P d f x xs (frzK d K) (opX σ x)
 | .callro f x xs=>g0f P d f x xs K (opX σ x)
 | i=>match runV i σ with
   | some (a,σ1)=>K (setT σ1 d a)
   | none=>match runM d i σ with
     | some σ1=>K σ1
     | none=>False
def iwp (P:Program) (ins:Ins) (K:St→Prop) (σ:St):Prop:=
 match ins.gd with
 | none=>iwp0 P ins.d ins.i K σ
 | some (t,want)=>match look σ.tm t with
   | some (.one (.bool b))=>if b=want then iwp0 P ins.d ins.i K σ else K (setT σ ins.d (.tup []))
   | some (.tup [])=>K (setT σ ins.d (.tup []))
   | _=>False
def y0y (P:Program):List Ins→(St→Prop)→St→Prop
 | [],K,σ=>K σ
 | i :: is,K,σ=>iwp P i (y0y P is K) σ
def w0y:List C→Bool
 | []=>true
 | c :: cs=>c.sc && w0y cs
def c0r:List (Bool×List C)→Bool
 | []=>true
 | (ag,cs) :: r=>w0y cs && (ag || cs.length == 1) && c0r r
def A.scA:A→Bool
 | .one c=>c.sc
 | .agg cs=>w0y cs
 | .tup xs=>c0r xs
def iwqC (P:Program) (d:Option Nat) (f:Nat) (xs:List X) (K:St→Prop) (σ:St):Prop:=
 match u0r σ xs with
 | some (_,as,σ1)=>∃r:A,r.scA=true∧CallsA P f as [] (fun r' H'=>H'=[]∧r'=r)∧K (setT σ1 d r)
 | none=>False
def iwqV (P:Program) (d:Option Nat) (xs:List X) (K:St→Prop) (σ:St):Option A→Prop
 | some (.one (.fn f []))=>FnOk P f∧iwqC P d f xs K σ
 | _=>False
def iwq0 (P:Program) (d:Option Nat) (i:I) (K:St→Prop) (σ:St):Prop:=
 match i with
 | .call f xs=>iwqC P d f xs K σ
 | .callv x xs=>iwqV P d xs K σ (ev σ x)
 | i=>match runV i σ with
   | some (a,σ1)=>K (setT σ1 d a)
   | none=>False
def iwq (P:Program) (ins:Ins) (K:St→Prop) (σ:St):Prop:=
 match ins.gd with
 | none=>iwq0 P ins.d ins.i K σ
 | some (t,want)=>match look σ.tm t with
   | some (.one (.bool b))=>if b=want then iwq0 P ins.d ins.i K σ else K (setT σ ins.d (.tup []))
   | some (.tup [])=>K (setT σ ins.d (.tup []))
   | _=>False
def qwp (P:Program):List Ins→(St→Prop)→St→Prop
 | [],K,σ=>K σ
 | i :: is,K,σ=>iwq P i (qwp P is K) σ
def j08 (ops:Array Oper) (n:Nat):List Nat→Array Bool→Bool
 | [],_=>true
 | i :: qs,listed=>decide (i<n) && (Region.ready .any ops listed).contains i && Region.free .any ops listed i && ((ops[i]?).map (·.guard.isNone)).getD false && j08 ops n qs (listed.setIfInBounds i true)
def k0t:List Nat→Array Bool→Array Bool
 | [],l=>l
 | i :: qs,l=>k0t qs (l.setIfInBounds i true)
def tX:X→List Nat
 | .t n=>[n]
 | .c _=>[]
def p0a:Ins→Option (Nat×Nat×List X)
 | ⟨some d,none,.call f xs⟩=>some (d,f,xs)
 | _=>none
def y0g (is:List Ins):List Nat→List Ins
 | []=>[]
 | i :: r=>match is[i]? with
   | some x=>x :: y0g is r
   | none=>y0g is r
def dsOf:List Ins→List Nat
 | []=>[]
 | x :: r=>match x.d with
   | some d=>d :: dsOf r
   | none=>dsOf r
def grpB (ops:Array Oper) (is:List Ins) (n:Nat) (qs gs:List Nat):Bool:=
 decide (is.length=ops.size) && decide (gs.length+qs.length=n) && Region.noSelect ops && decide (n<ops.size) && Region.sinkB .any ops n && Region.chainB .any ops n && j08 ops n qs (Array.replicate ops.size false) &&
 ((List.range n).all fun j=>qs.contains j != gs.contains j) && gs.all (fun i=>decide (i<n)) && decide gs.Nodup &&
 gs.all (fun i=>((is[i]?).map fun x=>(p0a x).isSome).getD false) &&
 gs.all (fun i=>((ops[i]?).map fun o=>o.after.all fun e=>!Region.binds .any e || qs.contains e.on).getD false) &&
 decide ((y0g is gs).length=gs.length) && decide ((dsOf (y0g is gs)).length=gs.length) && decide (dsOf (y0g is gs)).Nodup &&
 (y0g is gs).all (fun x=>((p0a x).map fun p=>p.2.2.all fun y=>(tX y).all fun t=>!(dsOf (y0g is gs)).contains t).getD false) &&
 Region.seqB .any ops (ops.size - n) n (k0t (List.range n) (Array.replicate ops.size false))
def qvp:List Ins→(St→Prop)→St→Prop
 | [],K,σ=>K σ
 | x :: r,K,σ=>match x.gd,runV x.i σ with
   | none,some (a,σ1)=>qvp r K (setT σ1 x.d a)
   | _,_=>False
def k0l (σ:St):List X→Option (Bool×List A)
 | []=>some (false,[])
 | x :: xs=>match ev σ x with
   | some a=>if a.aff then none else match q06 σ a,k0l σ xs with
     | some (b,a'),some (b',r)=>some (b || b',a' :: r)
     | _,_=>none
   | none=>none
def delL:List Nat→List (Nat×A)→List (Nat×A)
 | [],tm=>tm
 | d :: ds,tm=>delL ds (del tm d)
def gcal (P:Program) (f:Nat) (Kv:A→Prop):Option (Bool×List A)→Prop
 | some (b,as)=>∃v:A,(CallsA P f as [] fun r H=>H=[]∧r=v)∧(b=true→u0s v=true)∧Kv v
 | none=>False
def gwp (P:Program) (ds:List Nat):List Ins→List (Nat×A)→(St→Prop)→St→Prop
 | [],es,K,σ0=>K { tm:=es ++ delL ds σ0.tm,ob:=σ0.ob }
 | ⟨some d,none,.call f xs⟩ :: r,es,K,σ0=>gcal P f (fun v=>gwp P ds r (es ++ [(d,v)]) K σ0) (k0l σ0 xs)
 | _ :: _,_,_,_=>False
def m0a (P:Program) (d:Nat):List Ins→(St→Prop)→St→Prop
 | [],K,σ=>K σ
 | i :: is,K,σ=>look σ.tm d=none∧iwp P i (m0a P d is K) σ
def s0z (σ:St) (p:Nat):Option Nat:=match look σ.tm p with
 | some (.one (.pt _ id [] _ _))=>match look σ.ob id with
   | some _=>some id
   | none=>none
 | _=>none
def x1s (id:Nat):Option (A×St)→Bool
 | some (_,σ2)=>(look σ2.ob id).isSome
 | none=>false
def m00 (P:Program) (i:Ins) (σ:St) (p:Nat):Prop:=match s0z σ p with
 | some id=>(match i.i with
   | .app _ _ _ _ s _=>x1s id (e0s σ s)=true
   | _=>iwp0 P i.d i.i (fun _=>True) { tm:=σ.tm,ob:=del σ.ob id })
 | none=>False
def g0c (P:Program) (i:Ins) (σ:St):List Nat→Prop
 | []=>True
 | p :: ps=>m00 P i σ p∧g0c P i σ ps
def g0b (P:Program) (ps:List Nat) (c:Nat) (i:Ins) (σ:St):Prop:=
 if c=0 then True else if c=1 then g0c P i σ ps
 else match ps[c - 2]?,i.i with
  | some p,.ld _ _ (.t q)=>∃id,s0z σ p=some id∧s0z σ q=some id
  | _,_=>False
def apwp (P:Program) (ps:List Nat):List Nat→List Ins→(St→Prop)→St→Prop
 | c :: cs,i :: is,K,σ=>g0b P ps c i σ∧iwp P i (apwp P ps cs is K) σ
 | _,_,K,σ=>K σ
def awp (P:Program):K→(Ex→St→Prop)→St→Prop
 | .skip,Q,σ=>Q .n σ
 | .seq a b,Q,σ=>awp P a (fun e σ'=>match e with
   | .n=>awp P b Q σ'
   | e=>Q e σ') σ
 | .reg keep is,Q,σ=>y0y P is (Q .n) (u0p keep σ)
 | .drw keep n is,Q,σ=>qwp P (is.take n) (y0y P (is.drop n) (Q .n)) (u0p keep σ)
 | .grp keep n qs gs is,Q,σ=>qvp (y0g is qs) (fun σ0=>gwp P (dsOf (y0g is gs)) (y0g is gs) [] (y0y P (is.drop n) (Q .n)) σ0) (u0p keep σ)
 | .flt keep d pre is,Q,σ=>m0a P d pre (y0y P is (Q .n)) (u0p keep σ)
 | .apd keep ps cs is,Q,σ=>apwp P ps cs is (Q .n) (u0p keep σ)
 | .two keep pre is1 is2,Q,σ=>y0y P pre (fun σ'=>y0y P is1 (Q .n) σ'∧y0y P is2 (Q .n) σ') (u0p keep σ)
 | .cond x a b,Q,σ=>match ev σ x with
   | some (.one (.bool t))=>if t then awp P a Q σ else awp P b Q σ
   | _=>False
 | .block id k,Q,σ=>awp P k (fun e σ'=>match e with
   | .x i=>if i=id then Q .n σ' else Q (.x i) σ'
   | e=>Q e σ') σ
 | .loop keep k,Q,σ=>∃(J:Nat→St→Prop) (n:Nat),J n (u0p keep σ)∧∀n σ,J n σ→awp P k (fun e σ'=>match e with
   | .n=>∃m,m<n∧J m (u0p keep σ')
   | e=>Q e σ') σ
 | .exit id,Q,σ=>Q (.x id) σ
 | .ret,Q,σ=>Q .r σ
 | .bad,_,_=>False
inductive IsC (P:Program):Op→I→Prop
 | call {c f fn os xs}:c.callee = .value (.func f)→c.args=List.toArray os→P.funcs[f]?=some fn→(fn.name == "runtime.NumGoroutine")=false→fn.body.isNone=false→XL xs os→IsC P (.call c) (.call f xs)
 | callr {c f fn os x xs}:c.callee = .value (.func f)→c.args=List.toArray os→P.funcs[f]?=some fn→(fn.name == "runtime.NumGoroutine")=false→fn.body.isNone=false→XL xs os→IsC P (.call c) (.callr f x xs)
 | callo {c f k fn os xs}:c.callee = .value (.func f)→c.args=List.toArray os→P.funcs[f]?=some fn→(fn.name == "runtime.NumGoroutine")=false→fn.body.isNone=false→XL xs os→IsC P (.call c) (.callo f k xs)
 | calln {c f js fn os xs}:c.callee = .value (.func f)→c.args=List.toArray os→P.funcs[f]?=some fn→(fn.name == "runtime.NumGoroutine")=false→fn.body.isNone=false→XL xs os→IsC P (.call c) (.calln f js xs)
 | callz {c f ns fn os xs}:c.callee = .value (.func f)→c.args=List.toArray os→P.funcs[f]?=some fn→(fn.name == "runtime.NumGoroutine")=false→fn.body.isNone=false→XL xs os→IsC P (.call c) (.callz f ns xs)
 | callzr {c f ns fn os x xs}:c.callee = .value (.func f)→c.args=List.toArray os→P.funcs[f]?=some fn→(fn.name == "runtime.NumGoroutine")=false→fn.body.isNone=false→XL xs os→IsC P (.call c) (.callzr f ns x xs)
 | callf {c f fn os xs}:c.callee = .value (.func f)→c.args=List.toArray os→P.funcs[f]?=some fn→(fn.name == "runtime.NumGoroutine")=false→fn.body.isNone=false→XL xs os→IsC P (.call c) (.callf f xs)
 | callrf {c f fn os x xs}:c.callee = .value (.func f)→c.args=List.toArray os→P.funcs[f]?=some fn→(fn.name == "runtime.NumGoroutine")=false→fn.body.isNone=false→XL xs os→IsC P (.call c) (.callrf f x xs)
 | callro {c f fn os x xs}:c.callee = .value (.func f)→c.args=List.toArray os→P.funcs[f]?=some fn→(fn.name == "runtime.NumGoroutine")=false→fn.body.isNone=false→XL xs os→IsC P (.call c) (.callro f x xs)
 | callv {c x x0 os xs}:c.callee = .value x0→XOf x x0→c.args=List.toArray os→XL xs os→IsC P (.call c) (.callv x xs)
structure InsK (P:Program) (n:Nat) (ops:Array Oper) (o:Oper) (ins:Ins):Prop where
 dst:o.dst=ins.d
 lt: ∀k,o.dst=some k→k<n∧k<1000
 gd:(o.guard=none∧ins.gd=none)∨∃j want t,o.guard=some (j,want)∧ins.gd=some (t,want)∧(ops[j]?).bind (·.dst)=some t
 op:IsV P o.op ins.i∨IsM P o.op ins.i∨IsC P o.op ins.i
def InsL (P:Program) (n:Nat) (ops:Array Oper):List Oper→List Ins→Prop
 | [],[]=>True
 | o :: os,i :: is=>InsK P n ops o i∧InsL P n ops os is
 | _,_=>False
def s09:I→Bool
 | .asn .. | .bld .. | .box .. | .boxs .. | .alc .. | .st .. | .bls .. | .mks .. | .app .. | .call .. | .callr .. | .callo .. | .callv .. | .calln .. | .callz .. | .callzr .. | .callf .. | .callrf .. | .callro .. | .asf .. =>false
 | _=>true
def s03:I→Bool
 | .bld .. | .bls .. | .call .. | .callz .. | .alc .. | .mks .. =>true
 | i=>s09 i
def asnI:I→Bool
 | .asn .. =>true
 | .asf .. =>true
 | _=>false
def mixB (ops:Array Oper) (is:List Ins) (m:Nat):Nat→Nat→Array Bool→Bool
 | 0,_,listed=>Region.seqB .any ops (ops.size - m) m listed
 | c+1,k,listed=>((ops[k]?).map fun o=>o.guard.isNone).getD false &&
    ((is[k]?).map fun x=>((s09 x.i || asnI x.i) && (Region.ready .any ops listed).contains k && Region.free .any ops listed k) || (s03 x.i && decide (Region.ready .any ops listed=[k]))).getD false &&
    mixB ops is m c (k+1) (listed.setIfInBounds k true)
def j0d (ops:Array Oper) (is:List Ins) (m:Nat):Bool:=
 Region.noSelect ops && decide (m<ops.size) && Region.sinkB .any ops m && Region.chainB .any ops m && mixB ops is m m 0 (Array.replicate ops.size false)
def i0o (ops:Array Oper) (i:Nat):Nat→Nat→List Nat→List Nat
 | 0,_,D=>D
 | f+1,m,D=>i0o ops i f (m+1) (match ops[m]? with
   | some o=>if o.after.any (fun e=>Region.binds .any e && (e.on == i || D.contains e.on))=true then m :: D else D
   | none=>D)
def w1k (ops:Array Oper) (i:Nat):List Nat:=i0o ops i ops.size 0 []
def lvGo:List Ins→List Nat→List Nat
 | [],_=>[]
 | x :: xs,fr=>match x.i,x.d with
   | .bls ..,some d=>2 :: lvGo xs (d :: fr)
   | .app _ _ _ _ (.t t) _,some d=>if fr.contains t then 1 :: lvGo xs (d :: fr) else 0 :: lvGo xs fr
   | i,_=>(if s09 i || asnI i || s03 i then 2 else 0) :: lvGo xs fr
structure OS where
 listed:Array Bool
 st:Bool
 cl:Bool
 fr:List Nat
def memB (ops:Array Oper) (lvs:List Nat) (s:OS) (k:Nat):Bool:=
 (List.range ops.size).all fun j=>j == k || s.listed.getD j true || (if s.st then lvs.getD j 0 != 0 else lvs.getD j 0 == 2) || (w1k ops k).contains j
def c0b (fr:List Nat):Option Nat→List Nat
 | some d=>fr.filter (·!= d)
 | none=>fr
def l00 (ops:Array Oper) (lvs:List Nat) (s:OS) (k:Nat) (x:Ins):Bool:=
 (Region.ready .any ops s.listed).contains k && (regI x.i || (s09 x.i && memB ops lvs s k)) && Region.free .any ops s.listed k
def p0s (s:OS) (k:Nat) (x:Ins):OS:=⟨s.listed.setIfInBounds k true,s.st,s.cl,c0b s.fr x.d⟩
def s0k (lvs:List Nat) (s:OS) (k:Nat) (x:Ins):Option OS:=
 match lvs.getD k 0,x.i,x.d with
 | 0,_,_=>some ⟨s.listed.setIfInBounds k true,false,false,[]⟩
 | 1,.app _ _ _ _ (.t t) _,some d=>if (s.cl && s.fr.contains t)=true then some ⟨s.listed.setIfInBounds k true,false,s.cl,d :: c0b s.fr (some d)⟩ else none
 | 2,.bls ..,some d=>some ⟨s.listed.setIfInBounds k true,false,s.cl,d :: c0b s.fr (some d)⟩
 | 2,i,d=>if s03 i=true then some ⟨s.listed.setIfInBounds k true,false,s.cl,c0b s.fr d⟩ else none
 | _,_,_=>none
def v03 (ops:Array Oper) (is:List Ins) (lvs:List Nat) (fl:Nat) (s:OS) (k:Nat):Option OS:=
 match is[k]? with
 | none=>none
 | some x=>if l00 ops lvs s k x=true then some (p0s s k x)
   else if ((Region.ready .any ops s.listed).all (fun j=>j == k || j == fl) && (Region.ready .any ops s.listed).contains k)=true then s0k lvs s k x else none
def ordB (ops:Array Oper) (is:List Ins) (lvs:List Nat):List Nat→OS→Bool
 | [],s=>(List.range ops.size).all fun i=>s.listed.getD i true
 | k :: ks,s=>match v03 ops is lvs ops.size s k with
   | some s'=>ordB ops is lvs ks s'
   | none=>false
def e00 (ops:Array Oper) (is:List Ins) (lvs:List Nat) (d:Nat):List Nat→OS→Option OS
 | [],s=>some s
 | k :: ks,s=>if ((is[k]?).bind fun x=>x.d)=some d then none else match v03 ops is lvs ops.size s k with
   | some s'=>e00 ops is lvs d ks s'
   | none=>none
def fltB (ops:Array Oper) (is:List Ins) (lvs:List Nat) (fl d:Nat) (post:List Nat):List Nat→OS→Bool
 | [],s=>ordB ops is lvs (fl :: post) s
 | k :: ks,s=>k != fl && (match e00 ops is lvs d (k :: ks) ⟨s.listed.setIfInBounds fl true,false,s.cl,s.fr⟩ with
     | some s1=>ordB ops is lvs post s1
     | none=>false) && (match v03 ops is lvs fl s k with
     | some s'=>fltB ops is lvs fl d post ks s'
     | none=>false)
def ord0 (ops:Array Oper):OS:=⟨Array.replicate ops.size false,true,true,[]⟩
def j0h (ops:Array Oper) (is:List Ins) (ks:List Nat):Bool:=
 Region.noSelect ops && (ks.length == ops.size) && ordB ops is (lvGo is []) ks (ord0 ops)
def g0p (ops:Array Oper) (is:List Ins) (fl d:Nat) (pre post:List Nat):Bool:=
 Region.noSelect ops && (pre.length+1+post.length == ops.size) && (match is[fl]? with
  | some ⟨some d',none,.alc ..⟩=>d' == d
  | _=>false) && fltB ops is (lvGo is []) fl d post pre (ord0 ops)
def ldI:I→Bool
 | .ld _ _ (.t _)=>true
 | _=>false
def apI:I→Bool
 | .st .. =>true
 | .app .. =>true
 | _=>false
def memA (ops:Array Oper) (lvs ap:List Nat) (s:OS) (k:Nat):Bool:=
 (List.range ops.size).all fun j=>j == k || s.listed.getD j true || lvs.getD j 0 == 2 || (w1k ops k).contains j || ap.contains j
def b0i (ops:Array Oper) (is:List Ins) (lvs ap:List Nat) (s:OS) (k:Nat):Option (Nat×OS):=
 match is[k]? with
 | none=>none
 | some x=>if l00 ops lvs s k x=true then some (0,p0s s k x)
   else if ((Region.ready .any ops s.listed).contains k && ldI x.i && x.gd.isNone && memA ops lvs ap s k && Region.free .any ops s.listed k)=true then some (2,p0s s k x)
   else if ((Region.ready .any ops s.listed).all (fun j=>j == k) && (Region.ready .any ops s.listed).contains k)=true then (s0k lvs s k x).map fun s'=>(if ap.contains k=true then 1 else 0,s') else none
def apB (ops:Array Oper) (is:List Ins) (lvs ap:List Nat):List Nat→List Nat→OS→Bool
 | [],[],s=>(List.range ops.size).all fun i=>s.listed.getD i true
 | k :: ks,c :: cs,s=>match b0i ops is lvs ap s k with
   | some (c',s')=>(c' == c || (c' == 2 && decide (2≤c))) && apB ops is lvs ap ks cs s'
   | none=>false
 | _,_,_=>false
def x1q (ops:Array Oper) (is:List Ins) (ps:List Nat) (ap ks cs:List Nat):Bool:=
 Region.noSelect ops && !ps.isEmpty && (ks.length == ops.size) && is.all (fun x=>ps.all fun p=>x.d != some p) && ap.all (fun j=>((is[j]?).map fun x=>apI x.i && x.gd.isNone).getD false) && apB ops is (lvGo is []) ap ks cs (ord0 ops)
def twoB (ops:Array Oper) (is:List Ins) (lvs:List Nat) (k1 k2:Nat) (r1 r2:List Nat):List Nat→OS→Bool
 | [],s=>(match is[k1]?,is[k2]? with
     | some x1,some x2=>!l00 ops lvs s k1 x1 && (match v03 ops is lvs k2 s k1,s0k lvs s k2 x2 with
       | some s1,some s2=>ordB ops is lvs r1 s1 && ordB ops is lvs r2 s2
       | _,_=>false)
     | _,_=>false)
 | k :: ks,s=>match v03 ops is lvs ops.size s k with
   | some s'=>twoB ops is lvs k1 k2 r1 r2 ks s'
   | none=>false
def e0w (ops:Array Oper) (is:List Ins) (k1 k2:Nat) (r1 r2 pre:List Nat):Bool:=
 Region.noSelect ops && (pre.length+1+r1.length == ops.size) && (r2.length == r1.length) && twoB ops is (lvGo is []) k1 k2 r1 r2 pre (ord0 ops)
inductive CK (P:Program) (n:Nat):Code→K→Prop
 | skip:CK P n .skip .skip
 | seq {a b a' b'}:CK P n a a'→CK P n b b'→CK P n (.seq a b) (.seq a' b')
 | reg {id ops keep is}:InsL P n ops ops.toList is→CK P n (.region id ops false) (.reg keep is)
 | drw {id ops keep m is}:InsL P n ops ops.toList is→P.follows .mixedOrders=true→(Region.lexB .any ops=true∧is.length≤m)∨Region.lexTailB .any ops m=true∨(m=0∧∃m',j0d ops is m'=true)→CK P n (.region id ops true) (.drw keep m is)
 | grp {id ops keep m qs gs is}:InsL P n ops ops.toList is→P.follows .mixedOrders=true→grpB ops is m qs gs=true→CK P n (.region id ops true) (.grp keep m qs gs is)
 | ord {id ops keep ks is}:InsL P n ops ops.toList is→P.follows .mixedOrders=true→j0h ops is ks=true→CK P n (.region id ops true) (.drw keep 0 (y0g is ks))
 | flt {id ops keep fl d pre post is}:InsL P n ops ops.toList is→P.follows .mixedOrders=true→g0p ops is fl d pre post=true→CK P n (.region id ops true) (.flt keep d (y0g is pre) (y0g is (fl :: post)))
 | apd {id ops keep ps ap ks cs is}:InsL P n ops ops.toList is→P.follows .mixedOrders=true→x1q ops is ps ap ks cs=true→CK P n (.region id ops true) (.apd keep ps cs (y0g is ks))
 | two {id ops keep k1 k2 r1 r2 pre is}:InsL P n ops ops.toList is→P.follows .mixedOrders=true→e0w ops is k1 k2 r1 r2 pre=true→CK P n (.region id ops true) (.two keep (y0g is pre) (y0g is (k1 :: r1)) (y0g is (k2 :: r2)))
 | cond {o x a b a' b'}:XOf x o→CK P n a a'→CK P n b b'→CK P n (.cond o a b) (.cond x a' b')
 | block {id c k}:CK P n c k→CK P n (.block id c) (.block id k)
 | loop {keep c k}:CK P n c k→CK P n (.loop c) (.loop keep k)
 | exit {id}:CK P n (.exit id) (.exit id)
 | ret:CK P n .ret .ret
 | bad {c}:CK P n c .bad
section
variable {P:Program} {w:World} {N:Nat→Prop} {lc:Loc} {tmps:Array Value} {ds:List Deferred} {F G:Fp} {σ σ1:St} {w0:World} {F0:Fp} {N0:Nat→Prop} {lc0:Loc} {n:Nat}
theorem t1v: ∀(ks:List Nat) (tm:List (Nat×A)) (Ft:Fp),x0u w N lc tmps tm Ft→∃F',(∀b,F' b≤Ft b)∧x0u w N lc tmps (sel ks tm) F'
 | [],_,Ft,_=>⟨fz,fun _=>Nat.zero_le _,rfl⟩
 | k :: ks,tm,Ft,h=>by
   simp only[sel]
   cases hl:look tm k with
   | none=>exact t1v ks tm Ft h
   | some a=>
     obtain⟨F1,F2,hle,h1,h2⟩:=x00 tm Ft k a hl h
     obtain⟨F3,hle3,h3⟩:=t1v ks _ F2 h2
     exact⟨add F1 F3,fun b=>by have:=hle b; have:=hle3 b; simp only[add]; omega,F1,F3,rfl,h1,h3⟩
theorem t1u: ∀(ks:List Nat) (ob:List (Nat×Obj)) (Ft:Fp),y03 w N lc ob Ft→∃F',(∀b,F' b≤Ft b)∧y03 w N lc (sel ks ob) F'
 | [],_,Ft,_=>⟨fz,fun _=>Nat.zero_le _,rfl⟩
 | k :: ks,tm,Ft,h=>by
   simp only[sel]
   cases hl:look tm k with
   | none=>exact t1u ks tm Ft h
   | some a=>
     obtain⟨F1,F2,hle,h1,h2⟩:=y0d tm Ft k a hl h
     obtain⟨F3,hle3,h3⟩:=t1u ks _ F2 h2
     exact⟨add F1 F3,fun b=>by have:=hle b; have:=hle3 b; simp only[add]; omega,F1,F3,rfl,h1,h3⟩
theorem u1q {o:Oper} {a:Act} {r:Next} {v:Value} {w':World} {next:Act→World→Prop} {Q:Exit→Act→World→Prop} (hr:(execOp a.eval o).run P w = .ok r w') (hv:r = .value v∨(r = .skip∧v=undef))
 (h:next (a.put o.dst v) w'):o.wp P a w next Q:=by
 unfold Oper.wp
 rw[hr]
 rcases hv with rfl | ⟨rfl,rfl⟩
 ·exact h
 ·exact h
theorem x0n {op:Op} {i:I} (h:IsM P op i) (σ:St):runV i σ=none:=by
 cases h <;> rfl
theorem k0o {op:Op} {i:I} (h:IsV P op i): ∀x xs,i≠.callv x xs:=by
 cases h <;> simp
theorem k0n {op:Op} {i:I} (h:IsM P op i): ∀x xs,i≠.callv x xs:=by
 cases h <;> simp
theorem p0q {op:Op} {i:I} (h:IsV P op i): ∀f xs,i≠.call f xs:=by
 cases h <;> simp
theorem p0p {op:Op} {i:I} (h:IsM P op i): ∀f xs,i≠.call f xs:=by
 cases h <;> simp
theorem t0w {op:Op} {i:I} (h:IsV P op i) (d:Option Nat) (σ:St):runM d i σ=none:=by
 cases h <;> simp[runM]
theorem q0p {op:Op} {i:I} (h:IsV P op i):j0a i=false:=by
 cases h <;> rfl
theorem t03 {op:Op} {i:I} (h:IsM P op i):j0a i=false:=by
 cases h <;> rfl
theorem v0e {d:Option Nat} {i:I} {K:St→Prop} (h:j0a i=false):iwp0 P d i K σ=(match runV i σ with
 | some (a,σ1)=>K (setT σ1 d a)
 | none=>match runM d i σ with
   | some σ1=>K σ1
   | none=>False):=by
 cases i <;> first | rfl | cases h
theorem g1s {o:Oper} {a:Act} {next:Act→World→Prop} {Q:Exit→Act→World→Prop} {K:St→Prop} (hd:a.defers=[]) (hn:a.tmps.size=n) (hFr:Fr w0 F0 N0 lc0 w F N lc) (hm:MOk P w N lc a.tmps [] F o σ1) (hK:K σ1)
 (hnext: ∀a' w',(∃σ',K σ'∧SR w0 F0 N0 lc0 n σ' a' w')→next a' w'):o.wp P a w next Q:=by
 obtain⟨r,v,w',N',lc',F',h1,h2,h3,h4,h5⟩:=hm
 obtain⟨tmps,ds⟩:=a
 simp only at hd hn
 subst hd
 refine u1q h1 h2 (hnext _ _ ⟨σ1,hK,?_,?_,N',lc',F',h3,h4,hFr.trans h5⟩)
 ·rw[y0i]
 ·rw[x06]; exact hn
theorem n01: ∀{cs:List C} {vs:List Value} {F:Fp},cs.all C.plain=true→z0m w N lc cs vs F→z0d w N cs vs F
 | [],_,_,_,h=>by simpa only[z0d,z0m] using h
 | c :: cs,_,_,hp,h=>by
   simp only[List.all_cons,Bool.and_eq_true] at hp
   simp only[z0m] at h
   obtain⟨v,vs',F1,F2,rfl,rfl,h1,h2⟩:=h
   simp only[z0d]
   exact⟨v,vs',F1,F2,rfl,rfl,v0s hp.1 h1,n01 hp.2 h2⟩
theorem d0r {σ':St} {m:Nat} {a:Act} (h:frzT σ m=some σ') (hs:SR w0 F0 N0 lc0 n σ a w):SR w0 F0 N0 lc0 n σ' a w:=by
 obtain⟨hdef,hn,N,lc,F,hB,hh,hFr⟩:=hs
 obtain⟨tmps,ds⟩:=a
 simp only at hdef hn hh
 unfold frzT at h
 split at h
 case h_3=>cases h
 case h_2=>
  rename_i cs0 σ00 ht
  split at h
  case h_2=>cases h
  rename_i cs σ0' hgv
  split at h
  case isFalse=>cases h
  rename_i hp
  injection h with h
  subst h
  obtain⟨G0,hr,hH0,_,hna⟩:=y0w (x:= .t m) (o:= .tmp m) (ds:=ds) rfl ht hh
  obtain⟨vs,hv,hrow0⟩:=hr
  obtain⟨G1,hrow,hH⟩:=m0f hgv hrow0 hH0
  obtain⟨h3,h4,h5⟩:=p0e hB hH
  have hr3:repA w (frzN N G1) lc (.agg (y04 cs)) ((Act.mk tmps ds).eval (.tmp m)) fz:=⟨vs,hv,s0n (s0b _ _ _ (fun b hb=> .inr hb) (fun b hb=> .inl hb) (n01 hp hrow))⟩
  have hd:m<tmps.size:=by
   rcases Nat.lt_or_ge m tmps.size with h | h
   ·exact h
   ·have hu:(Act.mk tmps ds).eval (.tmp m)=undef:=by simp[Act.eval,Array.getD_eq_getD_getElem?,Array.getElem?_eq_none h]
    rw[hu] at hv
    exact absurd hv (by simp[undef])
  have hsame:tmps.setIfInBounds m ((Act.mk tmps ds).eval (.tmp m))=tmps:=by
   show tmps.setIfInBounds m (tmps.getD m undef)=tmps
   apply Array.ext'
   apply List.ext_getElem?
   intro k
   simp[Array.getD_eq_getD_getElem?,List.getElem?_set,hd]
   intro hk
   subst hk
   simp[hd]
  have h6:Hold w (frzN N G1) lc σ0' tmps (frzF F G1) (add fz fz):=by rw[z0g]; exact h4
  have:=y0j (ds:=ds) (d:=some m) h6 hr3 (fun k hk=>by injection hk with hk; subst hk; exact hd)
  refine⟨hdef,hn,_,lc,_,h3,?_,hFr.trans h5⟩
  simp only[Act.put] at this
  rw[hsame] at this
  exact this
 rename_i c σ0' ht
 split at h
 case h_2=>cases h
 rename_i c' σ1 hg
 split at h
 case isFalse=>cases h
 rename_i hp
 injection h with h
 subst h
 obtain⟨G1,hr,hH,_,hna⟩:=y0w (x:= .t m) (o:= .tmp m) (ds:=ds) rfl ht hh
 obtain⟨G2,hr2,hH2⟩: ∃G2,repA w N lc (.one c') ((Act.mk tmps ds).eval (.tmp m)) G2∧Hold w N lc σ1 tmps F (add fz G2):=by
  by_cases haff:(A.one c).aff=true
  ·have:p0f σ0' (.one c)=some (.one c,σ0'):=by cases c <;> simp[A.aff,C.aff] at haff <;> rfl
   rw[this] at hg
   simp only[Option.some.injEq,Prod.mk.injEq,A.one.injEq] at hg
   obtain⟨rfl,rfl⟩:=hg
   exact⟨G1,hr,hH⟩
  ·have haff:(A.one c).aff=false:=by simpa using haff
   obtain⟨rfl,rfl⟩:=hna haff
   rw[z0g] at hH
   exact n0m hg haff hr hH
 obtain⟨h3,h4,h5⟩:=p0e hB hH2
 have hrc:=v0s hp hr2
 have hr3:repA w (frzN N G2) lc (.one (shr c')) ((Act.mk tmps ds).eval (.tmp m)) fz:=u07 (u02 _ _ _ (fun b hb=> .inr hb) (fun b hb=> .inl hb) hrc)
 have hd:m<tmps.size:=by
  rcases Nat.lt_or_ge m tmps.size with h | h
  ·exact h
  ·have hv:(Act.mk tmps ds).eval (.tmp m)=undef:=by simp[Act.eval,Array.getD_eq_getD_getElem?,Array.getElem?_eq_none h]
   rw[hv] at hrc
   have h1:=t0p hrc
   cases c' with
   | int=>exact absurd hrc.1 (by simp[undef])
   | bool=>exact absurd hrc.1 (by simp[undef])
   | str=>exact absurd hrc.1 (by simp[undef])
   | np=>exact absurd hrc.1 (by simp[undef])
   | fn f cap=>obtain⟨_,vs,h,_⟩:=hrc; exact absurd h (by simp[undef])
   | op t e cs=>
     simp only[repC] at hrc
     obtain⟨b,cur,F',h,_⟩:=hrc
     exact absurd h (by simp[undef])
   | ar own t e xs=>
     cases own with
     | true=>
       rcases t0o hrc with⟨_,a,h⟩ | ⟨_,_,_,_,_,h,_⟩ <;> exact absurd h (by simp[undef])
     | false=>
       simp only[repC] at hrc
       obtain⟨_,a,cap,h,_⟩:=hrc
       exact absurd h (by simp[undef])
   | _=>simp[C.plain] at hp
 have hsame:tmps.setIfInBounds m ((Act.mk tmps ds).eval (.tmp m))=tmps:=by
  show tmps.setIfInBounds m (tmps.getD m undef)=tmps
  apply Array.ext'
  apply List.ext_getElem?
  intro k
  simp[Array.getD_eq_getD_getElem?,List.getElem?_set,hd]
  intro hk
  subst hk
  simp[hd]
 have h6:Hold w (frzN N G2) lc σ1 tmps (frzF F G2) (add fz fz):=by rw[z0g]; exact h4
 have:=y0j (ds:=ds) (d:=some m) h6 hr3 (fun k hk=>by injection hk with hk; subst hk; exact hd)
 refine⟨hdef,hn,_,lc,_,h3,?_,hFr.trans h5⟩
 simp only[Act.put] at this
 rw[hsame] at this
 exact this
theorem u1r {x:X} {a:Act} (hs:SR w0 F0 N0 lc0 n σ a w):SR w0 F0 N0 lc0 n (opX σ x) a w:=by
 cases x with
 | c=>exact hs
 | t m=>
   simp only[opX]
   split
   case h_2=>exact hs
   rename_i t e cs hl
   split
   case isFalse=>exact hs
   rename_i hm
   obtain⟨hdef,hn,N,lc,F,hB,⟨Ft,Fo,hle,ht,ho⟩,hFr⟩:=hs
   obtain⟨tmps,ds⟩:=a
   simp only at hdef hn ht
   obtain⟨F1,F2,hle2,hr,h2⟩:=x00 σ.tm Ft m _ hl ht
   have hd:m<tmps.size:=by
    rcases Nat.lt_or_ge m tmps.size with h | h
    ·exact h
    ·have hv:tmps.getD m undef=undef:=by simp[Array.getD_eq_getD_getElem?,Array.getElem?_eq_none h]
     rw[hv] at hr
     simp only[repA,repT,repC] at hr
     obtain⟨b,cur,F',h,_⟩:=hr
     exact absurd h (by simp[undef])
   have hh2:Hold w N lc { tm:=del σ.tm m,ob:=σ.ob } tmps F (add fz F1):=⟨F2,Fo,fun x=>by have:=hle x; have:=hle2 x; simp only[add,fz] at *; omega,h2,ho⟩
   obtain⟨lc',hlc,hh3⟩:=h0a (d:=m) hd hm hr hh2
   have hsame:tmps.setIfInBounds m (tmps.getD m undef)=tmps:=by
    apply Array.ext'
    apply List.ext_getElem?
    intro k
    simp[Array.getD_eq_getD_getElem?,List.getElem?_set,hd]
    intro hk
    subst hk
    simp[hd]
   rw[hsame] at hh3
   exact⟨hdef,hn,N,lc',F,hB,hh3,hFr.trans ⟨rfl,rfl,rfl,Nat.le_refl _,fun _ _ _=>rfl,fun _ h=> .inl h,fun _ h=>h,fun _ h=> .inl h,hlc⟩⟩
theorem h1a (ks os:List Nat) {a:Act} (h:SR w0 F0 N0 lc0 n σ a w):SR w0 F0 N0 lc0 n { tm:=sel ks σ.tm,ob:=sel os σ.ob } a w:=by
 obtain⟨h1,h2,N,lc,F,hB,⟨Ft,Fo,hle,ht,ho⟩,hFr⟩:=h
 obtain⟨F1,k1,k2⟩:=t1v ks σ.tm Ft ht
 obtain⟨F2,k3,k4⟩:=t1u os σ.ob Fo ho
 exact⟨h1,h2,N,lc,F,hB,⟨F1,F2,fun b=>by have:=hle b; have:=k1 b; have:=k3 b; omega,k2,k4⟩,hFr⟩
theorem u0q (keep:Option (List Nat×List Nat)) {a:Act} (h:SR w0 F0 N0 lc0 n σ a w):SR w0 F0 N0 lc0 n (u0p keep σ) a w:=by
 unfold u0p
 split
 ·exact h
 ·split
  ·unfold n1y
   split
   ·rename_i hz
    exact d0r hz h
   ·exact h
  ·exact h1a _ _ h
theorem d0q: ∀{ns:List Nat} {σ σ':St} {a:Act},frzL σ ns=some σ'→SR w0 F0 N0 lc0 n σ a w→SR w0 F0 N0 lc0 n σ' a w
 | [],_,_,_,h,hs=>by injection h with h; subst h; exact hs
 | m :: ns,σ,σ',a,h,hs=>by
   simp only[frzL] at h
   split at h
   case h_2=>cases h
   rename_i σ1 h1
   exact d0q h (d0r h1 hs)
theorem g0i {o:Oper} {f:Nat} {fn:Func} {c:Call} {ns:List Nat} {xs:List X} {os:List Operand} {K:St→Prop} {a:Act} {Q:Exit→Act→World→Prop}
 (ho:o.op = .call c) (hc:c.callee = .value (.func f)) (hargs:c.args=os.toArray) (hf:P.funcs[f]?=some fn) (hname:(fn.name == "runtime.NumGoroutine")=false) (hbody:fn.body.isNone=false) (hx:XL xs os) (hd: ∀k,o.dst=some k→k<n)
 (h:w15 P o.dst f ns xs K σ) (hs:SR w0 F0 N0 lc0 n σ a w):o.wp P a w (fun a' w'=>(∃σ',K σ'∧SR w0 F0 N0 lc0 n σ' a' w')∧Qw w w') Q:=by
 unfold w15 at h
 cases hz:frzL σ ns with
 | none=>rw[hz] at h; exact h.elim
 | some σ1=>
   rw[hz] at h
   exact r01 ho hc rfl hargs hf hname hbody hx hd h (d0q hz hs)
theorem w17 {o:Oper} {f:Nat} {fn:Func} {c:Call} {ns:List Nat} {x:X} {xs:List X} {os:List Operand} {K:St→Prop} {a:Act} {Q:Exit→Act→World→Prop}
 (ho:o.op = .call c) (hc:c.callee = .value (.func f)) (hargs:c.args=os.toArray) (hf:P.funcs[f]?=some fn) (hname:(fn.name == "runtime.NumGoroutine")=false) (hbody:fn.body.isNone=false) (hx:XL xs os) (hd: ∀k,o.dst=some k→k<n)
 (h:g0h P o.dst f ns x xs K σ) (hs:SR w0 F0 N0 lc0 n σ a w):o.wp P a w (fun a' w'=>∃σ',K σ'∧SR w0 F0 N0 lc0 n σ' a' w') Q:=by
 unfold g0h at h
 cases hz:frzL σ ns with
 | none=>rw[hz] at h; exact h.elim
 | some σ1=>
   rw[hz] at h
   exact i0f ho hc hargs hf hname hbody hx hd h (d0q hz hs)
theorem w1s {d:Option Nat} {K:St→Prop} {a:Act} (h: ∃σ',frzK d K σ'∧SR w0 F0 N0 lc0 n σ' a w): ∃σ',K σ'∧SR w0 F0 N0 lc0 n σ' a w:=by
 obtain⟨σ',h1,h2⟩:=h
 cases d with
 | none=>exact⟨σ',h1,h2⟩
 | some m=>
   simp only[frzK] at h1
   cases hz:frzT σ' m with
   | none=>rw[hz] at h1; exact h1.elim
   | some σ1=>rw[hz] at h1; exact⟨σ1,h1,d0r hz h2⟩
theorem q0q {ops:Array Oper} {o:Oper} {ins:Ins} {a:Act} {Q:Exit→Act→World→Prop} {K:St→Prop} {next:Act→World→Prop} (hi:InsK P n ops o ins) (h:iwp0 P ins.d ins.i K σ) (hs:SR w0 F0 N0 lc0 n σ a w)
 (hnext: ∀a' w',(∃σ',K σ'∧SR w0 F0 N0 lc0 n σ' a' w')→next a' w'):o.wp P a w next Q:=by
 have hd:=hi.dst
 have hlt:=hi.lt
 rcases hi.op with hv | hm | hc
 ·rw[v0e (q0p hv)] at h
  cases hr:runV ins.i σ with
  | none=>rw[hr,t0w hv] at h; exact h.elim
  | some x=>
    obtain⟨v,σ1⟩:=x
    rw[hr] at h
    obtain⟨h1,h2,N,lc,F,hB,hh,hFr⟩:=hs
    obtain⟨tmps,ds⟩:=a
    simp only at h1 h2 hh
    subst h1
    obtain⟨g,G1,k1,k2,k3⟩:=t1s (ds:=[]) hv hr hh
    refine u1q k1 (.inl rfl) (hnext _ _ ⟨setT σ1 ins.d v,h,?_,?_,N,lc,F,hB,?_,hFr⟩)
    ·rw[y0i]
    ·rw[x06]; exact h2
    ·rw[hd]
     exact y0j k3 k2 (fun k hk=>by rw[h2]; exact (hlt k (by rw[hd]; exact hk)).1)
 ·rw[v0e (t03 hm),x0n hm] at h
  cases hr:runM ins.d ins.i σ with
  | none=>rw[hr] at h; exact h.elim
  | some σ1=>
    rw[hr] at h
    simp only at h
    obtain⟨h1,h2,N,lc,F,hB,hh,hFr⟩:=hs
    have hdt: ∀k,o.dst=some k→k<a.tmps.size:=fun k hk=>by rw[h2]; exact (hlt k hk).1
    refine g1s h1 h2 hFr ?_ h hnext
    obtain⟨d,gd,i⟩:=ins
    obtain⟨dst,op,ty,pos,after,guard⟩:=o
    simp only at hm hr hd hlt hdt
    subst hd
    cases hm with
    | @asn x x0 hx=>
      simp only[runM] at hr
      split at hr
      case h_2=>cases hr
      rename_i d0 a0 σ0 ht
      simp only[Option.some.injEq] at hr
      subst hr
      exact f12 rfl rfl hx (hdt d0 rfl) (hlt d0 rfl).2 ht hB hh
    | @asf x x0 hx=>
      simp only[runM] at hr
      split at hr
      case h_2=>cases hr
      rename_i d0 a0 σ0 ht
      split at hr
      ·cases hr
      rename_i hz
      simp only[Option.some.injEq] at hr
      subst hr
      exact f11 rfl rfl hx (hdt d0 rfl) ht (by simpa using hz) hB hh
    | @bld t fzm z ps ps' i zv pl hi0 hz0 hzr hpl hps=>
      simp only[runM] at hr
      split at hr
      case h_2=>cases hr
      rename_i cs σ0 ht
      simp only[Option.some.injEq] at hr
      subst hr
      exact f15 rfl hi0 hz0 hzr hpl hps hdt ht hB hh
    | @box t e x x0 hx=>
      simp only[runM] at hr
      split at hr
      case h_2=>cases hr
      rename_i d0 cs σ0 ht
      split at hr
      case isFalse=>cases hr
      rename_i hl
      simp only[Option.some.injEq] at hr
      subst hr
      exact f18 rfl rfl hx (hdt d0 rfl) (hlt d0 rfl).2 ht hl hB hh
    | @boxs t e x x0 hx=>
      simp only[runM] at hr
      split at hr
      case h_2=>cases hr
      rename_i d0 a0 σ0 ht
      split at hr
      case h_2=>cases hr
      rename_i cs hcs
      split at hr
      case isFalse=>cases hr
      rename_i hl
      simp only[Option.some.injEq] at hr
      subst hr
      exact o1x rfl rfl hx (hdt d0 rfl) ht hcs hl.2 hB hh
    | @alc t e z ti zv hti hz hl hzr=>
      simp only[runM] at hr
      split at hr
      case h_2=>cases hr
      rename_i d0
      simp only[Option.some.injEq] at hr
      subst hr
      exact g1w rfl rfl hti hz hl hzr (hdt d0 rfl) (hlt d0 rfl).2 hB hh
    | @st t n' fzm p v p' v' hp hv hs'=>
      cases dst with
      | some d0=>simp[runM] at hr
      | none=>exact z2v rfl rfl hp hv hs' hr hB hh
    | @bls t el e fzm os xs ti zv ht hti hz hs' hzs hn' he hx=>
      simp only[runM] at hr
      split at hr
      case h_2=>cases hr
      rename_i rs σ0 ht'
      simp only[Option.some.injEq] at hr
      subst hr
      exact f17 (o:={ dst,op:=_,type:=ty,pos,after,guard }) rfl ht hti hz hs' hzs hn' he hx hdt ht' hB hh
    | @mks t el e by_ z l c l' c' ti zv hl hc ht hti hz hs' hby hby2 hzl he hzr=>
      exact a1j (o:={ dst,op:=_,type:=ty,pos,after,guard }) rfl hl hc ht hti hz hs' hby hby2 hzl he hzr hdt hr hB hh
    | @app t el e by_ fzm s x s' x' ti zv hs' hx ht hti hz hsz hby hby2 hzs he=>
      exact g1y (o:={ dst,op:=_,type:=ty,pos,after,guard }) rfl hs' hx ht hti hz hsz hby hby2 hzs he hdt hr hB hh
 ·obtain⟨d,gd,i⟩:=ins
  obtain⟨dst,op,ty,pos,after,guard⟩:=o
  simp only at hc h hd hlt
  subst hd
  cases hc with
  | @call c f fn os xs h1 h2 h3 h4 h5 h6=>
    have:=r1a (o:={ dst,op:= .call c,type:=ty,pos,after,guard }) (Q:=Q) (K:=K) rfl h1 rfl h2 h3 h4 h5 h6 (fun k hk=>(hlt k hk).1) h hs
    unfold Oper.wp at this ⊢
    revert this
    generalize (execOp a.eval _).run P w=res
    intro this
    cases res with
    | halt hh' w'=>cases hh' <;> first | exact this | exact this.elim
    | ok nx w'=>
      cases nx with
      | value v=>exact hnext _ _ this
      | skip=>exact hnext _ _ this
      | defer d=>exact hnext _ _ this
      | enter f' args=>
        simp only[Oper.upon_enter] at this ⊢
        refine Calls.mono this fun e w'' hh=>?_
        cases e with
        | returned v=>exact hnext _ _ hh
        | panicked ch=>exact hh
        | outgrown=>exact hh
      | row r args=>
        simp only[Oper.upon_row] at this ⊢
        exact Rows.mono this fun v w'' hh=>hnext _ _ hh
      | _=>exact this.elim
  | @callr c f fn os x xs h1 h2 h3 h4 h5 h6=>
    have:=i0f (o:={ dst,op:= .call c,type:=ty,pos,after,guard }) (Q:=Q) (K:=K) rfl h1 h2 h3 h4 h5 h6 (fun k hk=>(hlt k hk).1) h (u1r hs)
    unfold Oper.wp at this ⊢
    revert this
    generalize (execOp a.eval _).run P w=res
    intro this
    cases res with
    | halt hh' w'=>cases hh' <;> first | exact this | exact this.elim
    | ok nx w'=>
      cases nx with
      | value v=>exact hnext _ _ this
      | skip=>exact hnext _ _ this
      | defer d=>exact hnext _ _ this
      | enter f' args=>
        simp only[Oper.upon_enter] at this ⊢
        refine Calls.mono this fun e w'' hh=>?_
        cases e with
        | returned v=>exact hnext _ _ hh
        | panicked ch=>exact hh
        | outgrown=>exact hh
      | row r args=>
        simp only[Oper.upon_row] at this ⊢
        exact Rows.mono this fun v w'' hh=>hnext _ _ hh
      | _=>exact this.elim
  | @callf c f fn os xs h1 h2 h3 h4 h5 h6=>
    have:=Oper.wp_mono (fun _ _ h=>w1s h.1) (r01 (o:={ dst,op:= .call c,type:=ty,pos,after,guard }) (Q:=Q) (K:=frzK dst K) rfl h1 rfl h2 h3 h4 h5 h6 (fun k hk=>(hlt k hk).1) h hs)
    unfold Oper.wp at this ⊢
    revert this
    generalize (execOp a.eval _).run P w=res
    intro this
    cases res with
    | halt hh' w'=>cases hh' <;> first | exact this | exact this.elim
    | ok nx w'=>
      cases nx with
      | value v=>exact hnext _ _ this
      | skip=>exact hnext _ _ this
      | defer d=>exact hnext _ _ this
      | enter f' args=>
        simp only[Oper.upon_enter] at this ⊢
        refine Calls.mono this fun e w'' hh=>?_
        cases e with
        | returned v=>exact hnext _ _ hh
        | panicked ch=>exact hh
        | outgrown=>exact hh
      | row r args=>
        simp only[Oper.upon_row] at this ⊢
        exact Rows.mono this fun v w'' hh=>hnext _ _ hh
      | _=>exact this.elim
  | @callrf c f fn os x xs h1 h2 h3 h4 h5 h6=>
    have:=Oper.wp_mono (fun _ _ h=>w1s h) (i0f (o:={ dst,op:= .call c,type:=ty,pos,after,guard }) (Q:=Q) (K:=frzK dst K) rfl h1 h2 h3 h4 h5 h6 (fun k hk=>(hlt k hk).1) h (u1r hs))
    unfold Oper.wp at this ⊢
    revert this
    generalize (execOp a.eval _).run P w=res
    intro this
    cases res with
    | halt hh' w'=>cases hh' <;> first | exact this | exact this.elim
    | ok nx w'=>
      cases nx with
      | value v=>exact hnext _ _ this
      | skip=>exact hnext _ _ this
      | defer d=>exact hnext _ _ this
      | enter f' args=>
        simp only[Oper.upon_enter] at this ⊢
        refine Calls.mono this fun e w'' hh=>?_
        cases e with
        | returned v=>exact hnext _ _ hh
        | panicked ch=>exact hh
        | outgrown=>exact hh
      | row r args=>
        simp only[Oper.upon_row] at this ⊢
        exact Rows.mono this fun v w'' hh=>hnext _ _ hh
      | _=>exact this.elim
  | @callro c f fn os x xs h1 h2 h3 h4 h5 h6=>
    have:=(w13 (o:={ dst,op:= .call c,type:=ty,pos,after,guard }) (Q:=Q) (K:=K) rfl h1 h2 h3 h4 h5 h6 (fun k hk=>(hlt k hk).1) h (u1r hs))
    unfold Oper.wp at this ⊢
    revert this
    generalize (execOp a.eval _).run P w=res
    intro this
    cases res with
    | halt hh' w'=>cases hh' <;> first | exact this | exact this.elim
    | ok nx w'=>
      cases nx with
      | value v=>exact hnext _ _ this
      | skip=>exact hnext _ _ this
      | defer d=>exact hnext _ _ this
      | enter f' args=>
        simp only[Oper.upon_enter] at this ⊢
        refine Calls.mono this fun e w'' hh=>?_
        cases e with
        | returned v=>exact hnext _ _ hh
        | panicked ch=>exact hh
        | outgrown=>exact hh
      | row r args=>
        simp only[Oper.upon_row] at this ⊢
        exact Rows.mono this fun v w'' hh=>hnext _ _ hh
      | _=>exact this.elim
  | @callzr c f ns fn os x xs h1 h2 h3 h4 h5 h6=>
    have:=w17 (o:={ dst,op:= .call c,type:=ty,pos,after,guard }) (Q:=Q) (K:=K) rfl h1 h2 h3 h4 h5 h6 (fun k hk=>(hlt k hk).1) h hs
    unfold Oper.wp at this ⊢
    revert this
    generalize (execOp a.eval _).run P w=res
    intro this
    cases res with
    | halt hh' w'=>cases hh' <;> first | exact this | exact this.elim
    | ok nx w'=>
      cases nx with
      | value v=>exact hnext _ _ this
      | skip=>exact hnext _ _ this
      | defer d=>exact hnext _ _ this
      | enter f' args=>
        simp only[Oper.upon_enter] at this ⊢
        refine Calls.mono this fun e w'' hh=>?_
        cases e with
        | returned v=>exact hnext _ _ hh
        | panicked ch=>exact hh
        | outgrown=>exact hh
      | row r args=>
        simp only[Oper.upon_row] at this ⊢
        exact Rows.mono this fun v w'' hh=>hnext _ _ hh
      | _=>exact this.elim
  | @callo c f k fn os xs h1 h2 h3 h4 h5 h6=>
    have:=r19 (o:={ dst,op:= .call c,type:=ty,pos,after,guard }) (Q:=Q) (K:=K) rfl h1 h2 h3 h4 h5 h6 (fun k hk=>(hlt k hk).1) h hs
    unfold Oper.wp at this ⊢
    revert this
    generalize (execOp a.eval _).run P w=res
    intro this
    cases res with
    | halt hh' w'=>cases hh' <;> first | exact this | exact this.elim
    | ok nx w'=>
      cases nx with
      | value v=>exact hnext _ _ this
      | skip=>exact hnext _ _ this
      | defer d=>exact hnext _ _ this
      | enter f' args=>
        simp only[Oper.upon_enter] at this ⊢
        refine Calls.mono this fun e w'' hh=>?_
        cases e with
        | returned v=>exact hnext _ _ hh
        | panicked ch=>exact hh
        | outgrown=>exact hh
      | row r args=>
        simp only[Oper.upon_row] at this ⊢
        exact Rows.mono this fun v w'' hh=>hnext _ _ hh
      | _=>exact this.elim
  | @calln c f js fn os xs h1 h2 h3 h4 h5 h6=>
    have:=b0m (o:={ dst,op:= .call c,type:=ty,pos,after,guard }) (Q:=Q) (K:=K) rfl h1 (cap:=[]) (fun N lc F _ _=>⟨[],rfl,rfl,rfl⟩) h2 h3 h4 h5 h6 (fun k hk=>(hlt k hk).1) h hs
    unfold Oper.wp at this ⊢
    revert this
    generalize (execOp a.eval _).run P w=res
    intro this
    cases res with
    | halt hh' w'=>cases hh' <;> first | exact this | exact this.elim
    | ok nx w'=>
      cases nx with
      | value v=>exact hnext _ _ this
      | skip=>exact hnext _ _ this
      | defer d=>exact hnext _ _ this
      | enter f' args=>
        simp only[Oper.upon_enter] at this ⊢
        refine Calls.mono this fun e w'' hh=>?_
        cases e with
        | returned v=>exact hnext _ _ hh
        | panicked ch=>exact hh
        | outgrown=>exact hh
      | row r args=>
        simp only[Oper.upon_row] at this ⊢
        exact Rows.mono this fun v w'' hh=>hnext _ _ hh
      | _=>exact this.elim
  | @callz c f ns fn os xs h1 h2 h3 h4 h5 h6=>
    have:=Oper.wp_mono (fun _ _ h=>h.1) (g0i (o:={ dst,op:= .call c,type:=ty,pos,after,guard }) (Q:=Q) (K:=K) rfl h1 h2 h3 h4 h5 h6 (fun k hk=>(hlt k hk).1) h hs)
    unfold Oper.wp at this ⊢
    revert this
    generalize (execOp a.eval _).run P w=res
    intro this
    cases res with
    | halt hh' w'=>cases hh' <;> first | exact this | exact this.elim
    | ok nx w'=>
      cases nx with
      | value v=>exact hnext _ _ this
      | skip=>exact hnext _ _ this
      | defer d=>exact hnext _ _ this
      | enter f' args=>
        simp only[Oper.upon_enter] at this ⊢
        refine Calls.mono this fun e w'' hh=>?_
        cases e with
        | returned v=>exact hnext _ _ hh
        | panicked ch=>exact hh
        | outgrown=>exact hh
      | row r args=>
        simp only[Oper.upon_row] at this ⊢
        exact Rows.mono this fun v w'' hh=>hnext _ _ hh
      | _=>exact this.elim
  | @callv c x x0 os xs h1 hx0 h2 h6=>
    unfold iwp0 k0z at h
    simp only at h
    split at h
    case h_2=>exact h.elim
    rename_i f cap hev
    obtain⟨⟨fn,h3,h4,h5⟩,h⟩:=h
    have hval: ∀(N:Nat→Prop) (lc:Loc) (F:Fp),Base w N F→Hold w N lc σ a.tmps F fz→∃vs:List Value,(Act.mk a.tmps a.defers).eval x0 = .func (.func f) #[] vs.toArray∧z0m w N lc cap vs fz:=by
     intro N lc F _ hh
     obtain⟨G1,⟨_,vs,hv,hrow⟩,_⟩:=y0r (ds:=a.defers) hx0 hev hh
     exact⟨vs,hv,hrow⟩
    have:({ dst,op:= .call c,type:=ty,pos,after,guard }:Oper).wp P a w (fun a' w'=>∃σ',K σ'∧SR w0 F0 N0 lc0 n σ' a' w') Q:=by
     cases hrc:x0f (fun _ _=>true) cap with
     | false=>
       rw[hrc] at h
       exact Oper.wp_mono (fun _ _ h=>h.1) (w14 (o:={ dst,op:= .call c,type:=ty,pos,after,guard }) (Q:=Q) (K:=K) rfl h1 hval hrc h2 h3 h4 h5 h6 (fun k hk=>(hlt k hk).1) h hs)
     | true=>
       rw[hrc] at h
       exact b0m (o:={ dst,op:= .call c,type:=ty,pos,after,guard }) (Q:=Q) (K:=K) rfl h1 hval h2 h3 h4 h5 h6 (fun k hk=>(hlt k hk).1) h hs
    unfold Oper.wp at this ⊢
    revert this
    generalize (execOp a.eval _).run P w=res
    intro this
    cases res with
    | halt hh' w'=>cases hh' <;> first | exact this | exact this.elim
    | ok nx w'=>
      cases nx with
      | value v=>exact hnext _ _ this
      | skip=>exact hnext _ _ this
      | defer d=>exact hnext _ _ this
      | enter f' args=>
        simp only[Oper.upon_enter] at this ⊢
        refine Calls.mono this fun e w'' hh=>?_
        cases e with
        | returned v=>exact hnext _ _ hh
        | panicked ch=>exact hh
        | outgrown=>exact hh
      | row r args=>
        simp only[Oper.upon_row] at this ⊢
        exact Rows.mono this fun v w'' hh=>hnext _ _ hh
      | _=>exact this.elim
end
end Go.Am
namespace Go.Am
namespace Rd
abbrev D (α:Type):=Nat→α×Nat
section
variable {α β γ δ ε ζ η:Type}
def pu (x:α):D α:=fun n=>(x,n)
def m1 (f:α→β) (a:D α):D β:=fun n=>match a n with
 | (x,n)=>(f x,n)
def m2 (f:α→β→γ) (a:D α) (b:D β):D γ:=fun n=>match a n with
 | (x,n)=>m1 (f x) b n
def m3 (f:α→β→γ→δ) (a:D α) (b:D β) (c:D γ):D δ:=fun n=>match a n with
 | (x,n)=>m2 (f x) b c n
def m4 (f:α→β→γ→δ→ε) (a:D α) (b:D β) (c:D γ) (d:D δ):D ε:=fun n=>match a n with
 | (x,n)=>m3 (f x) b c d n
def m5 (f:α→β→γ→δ→ε→ζ) (a:D α) (b:D β) (c:D γ) (d:D δ) (e:D ε):D ζ:=fun n=>match a n with
 | (x,n)=>m4 (f x) b c d e n
def m6 (f:α→β→γ→δ→ε→ζ→η) (a:D α) (b:D β) (c:D γ) (d:D δ) (e:D ε) (g:D ζ):D η:=fun n=>match a n with
 | (x,n)=>m5 (f x) b c d e g n
def pick (d:D α):List (D α)→Nat→D α
 | [],_=>d
 | a :: r,t=>match t with
   | 0=>a
   | t+1=>pick d r t
def rep (d:D α):Nat→D (List α)
 | 0=>pu []
 | c+1=>fun n=>match d n with
   | (x,n)=>m1 (fun l=>x :: l) (rep d c) n
end
def big:Nat→D Nat
 | 0=>pu 0
 | c+1=>fun n=>m1 (fun v=>n % 64+64*v) (big c) (n / 64)
def num:D Nat:=fun n=>match Nat.blt (n % 64) 40 with
 | true=>(n % 64,n / 64)
 | false=>match Nat.beq (n % 64) 63 with
   | true=>big ((n / 64) % 64) (n / 4096)
   | false=>(40+(n % 64 - 40)*64+(n / 64) % 64,n / 4096)
def lst {α:Type} (d:D α):D (List α):=fun n=>match num n with
 | (c,n)=>rep d c n
def zig (v:Nat):Int:=match v % 2 with
 | 0=> .ofNat (v / 2)
 | _=> -.ofNat ((v+1) / 2)
def kinds:List IntKind:=[.i64,.u8,.u32,.u64,.i8,.i16,.i32,.u16]
def kind:D IntKind:=m1 (fun v=>kinds.getD v .i64) num
def ops:List BinOp:=[.add,.sub,.mul,.quo,.rem,.and,.or,.xor,.shl,.shr,.andNot,.eql,.neq,.lss,.leq,.gtr,.geq]
def bop:D BinOp:=m1 (fun v=>ops.getD v .add) num
def bo:D Bool:=m1 (fun v=>Nat.beq v 1) num
def sel {α:Type} (d:D α) (l:List (D α)):D α:=fun n=>pick d l (n % 64) (n / 64)
def cc:D C:=sel (pu .dead) [m2 (fun k v=> .int k (zig v)) kind num,m1 .bool bo,m1 (fun l=> .str ⟨(l.map Nat.toUInt8).toArray⟩) (lst num),m3 (fun o t e=> .ar o t e []) bo num num,pu .np,m1 (fun f=> .fn f []) num]
def xx:D X:=fun n=>match Nat.blt (n % 64) 56 with
 | true=>(.t (n % 64),n / 64)
 | false=>pick (m1 .c cc) [m1 (fun v=> .t (v+56)) num,m1 (fun v=> .c (.int .i64 (zig v))) num,pu (.c (.bool false)),pu (.c (.bool true))] (n % 64 - 56) (n / 64)
def ox:D (Option X):=sel (m1 some xx) [pu none]
def xs:D (List X):=lst xx
def ns:D (List Nat):=lst num
def it:D I:=sel (m3 .callro num xx xs) [m1 .mv xx,m1 .asn xx,m3 .ld num bo xx,m1 .len xx,m3 .bin bop xx xx,m2 .call num xs,m2 .fad num xx,m3 .iad num xx xx,m3 .box num num xx,m1 .not xx,
 m3 .pick xx xx xx,m4 .st num bo xx xx,m2 .ext num xx,m1 .nil xx,m6 .app num num num bo xx xx,m4 .bls num num bo xs,m3 .callr num xx xs,m2 .conv kind xx,m3 .alc num num (lst cc),m3 .beq bo xx xx,
 m3 .bld bo (lst cc) (lst (m3 (fun a b c=>(a,b,c)) num num xx)),m4 .iaa num num xx xx,m4 .slc num xx ox ox,m2 .boxs num xx,m3 .callo num num xs,m4 .fld num num bo xx,m2 .idx xx xx,m1 .asf xx,m1 .als xx,m1 .neg xx,
 m1 .lns xx,m3 .mnx bo xx xx,m3 .sls xx ox ox,m1 .b2s xx,m4 .sqe bo (lst bo) xx xx,m5 .idxa num num bo xx xx,m2 .mkf num xs,m6 .mks num num num (lst cc) xx xx,m2 .callv xx xs,m3 .calln num ns xs,m3 .callz num ns xs,m4 .callzr num ns xx xs,m2 .callf num xs,m3 .callrf num xx xs]
def ins:D Ins:=fun n=>match n % 64 with
 | 60=>m1 (fun i=>⟨none,none,i⟩) it (n / 64)
 | 61=>m3 (fun t d i=>⟨some d,some (t,true),i⟩) num num it (n / 64)
 | 62=>m3 (fun t d i=>⟨some d,some (t,false),i⟩) num num it (n / 64)
 | 59=>m3 (fun b t i=>⟨none,some (t,b),i⟩) bo num it (n / 64)
 | _=>m2 (fun i d=>⟨some d,none,i⟩) it num n
def kp:D (Option (List Nat×List Nat)):=sel (m2 (fun a b=>some (a,b)) ns ns) [pu none]
def code:Nat→D K
 | 0=>pu .bad
 | f+1=>sel (pu .bad) [m2 .seq (code f) (code f),m1 (.reg none) (lst ins),m3 .cond xx (code f) (code f),pu .skip,pu .ret,m2 .block num (code f),m1 .exit num,m3 (fun a b k=> .loop (some (a,b)) k) ns ns (code f),m3 .drw kp num (lst ins),m5 .grp kp num ns ns (lst ins),m2 .reg kp (lst ins),m2 .loop kp (code f),m4 .flt kp num (lst ins) (lst ins),m4 .apd kp ns ns (lst ins),m4 .two kp (lst ins) (lst ins) (lst ins)]
end Rd
def dc (n:Nat):K:=(Rd.code 400 n).1
end Go.Am
namespace Go.Am
section
variable {P:Program} {w w':World} {N N':Nat→Prop} {lc lc':Loc} {tmps:Array Value} {ds:List Deferred} {F F' G:Fp} {σ σ1:St} {n:Nat}
theorem o0l: ∀{cs:List C} {vs vs':List Value} {F F':Fp},w0y cs=true→z0m w N lc cs vs F→z0m w' N' lc' cs vs' F'→vs=vs'
 | [],_,_,_,_,_,h,h'=>h.1.trans h'.1.symm
 | c :: cs,_,_,_,_,hs,⟨v,vs,F1,F2,hv,_,h1,h2⟩,⟨v',vs',F1',F2',hv',_,h1',h2'⟩=>by
   simp only[w0y,Bool.and_eq_true] at hs
   rw[hv,hv',l0m hs.1 h1 h1',o0l hs.2 h2 h2']
theorem e0b: ∀{xs:List (Bool×List C)} {gs gs':List Value} {F F':Fp},c0r xs=true→u0m w N lc xs gs F→u0m w' N' lc' xs gs' F'→gs=gs'
 | [],_,_,_,_,_,h,h'=>h.1.trans h'.1.symm
 | (ag,cs) :: r,_,_,_,_,hs,⟨v,vs,F1,F2,hv,_,h1,h2⟩,⟨v',vs',F1',F2',hv',_,h1',h2'⟩=>by
   simp only[c0r,Bool.and_eq_true] at hs
   obtain⟨⟨hs1,_⟩,hs2⟩:=hs
   rw[hv,hv',e0b hs2 h2 h2']
   congr 1
   cases ag with
   | true=>
     obtain⟨us,hu,k⟩:=h1
     obtain⟨us',hu',k'⟩:=h1'
     rw[hu,hu',o0l hs1 k k']
   | false=>
     obtain⟨c,hc,k⟩:=h1
     obtain⟨c',hc',k'⟩:=h1'
     rw[hc] at hc' hs1
     injection hc' with hc'
     subst hc'
     simp only[w0y,Bool.and_true] at hs1
     exact l0m hs1 k k'
theorem t1d {a:A} {g g':Value} (hs:a.scA=true) (h:repA w N lc a g F) (h':repA w' N' lc' a g' F'):g=g':=by
 cases a with
 | one c=>exact l0m hs h h'
 | agg cs=>obtain⟨vs,hv,k⟩:=h; obtain⟨vs',hv',k'⟩:=h'; rw[hv,hv',o0l hs k k']
 | tup xs=>obtain⟨vs,hv,k⟩:=h; obtain⟨vs',hv',k'⟩:=h'; rw[hv,hv',e0b hs k k']
def C.val:C→Value
 | .int k n=> .int k n
 | .bool b=> .bool b
 | .str s=> .string s
 | _=>undef
theorem n0u {c:C} (hs:c.sc=true):repT w N lc c c.val fz:=by
 cases c with
 | int k n=>exact⟨rfl,rfl⟩
 | bool b=>exact⟨rfl,rfl⟩
 | str s=>exact⟨rfl,rfl⟩
 | _=>simp[C.sc] at hs
theorem s0m: ∀{cs:List C},w0y cs=true→z0m w N lc cs (cs.map C.val) fz
 | [],_=>⟨rfl,rfl⟩
 | c :: cs,hs=>by
   simp only[w0y,Bool.and_eq_true] at hs
   exact⟨_,_,fz,fz,rfl,(z0g _).symm,n0u hs.1,s0m hs.2⟩
theorem j0q {p:Nat→Path→Bool}: ∀{as:List A} {gs:List Value} {F:Fp},(∀b,1≤F b∨N b→w'.heap[b]?=w.heap[b]?)→(∀id st,p id st=false→∀x,resF w (lc id) st=some x→resF w' (lc id) st=some x)→
 (∀a∈as,a.ref p=false)→x07 w N lc as gs F→x07 w' N lc as gs F
 | [],_,_,_,_,_,h=>h
 | a :: as,_,_,hk,hr,hp,⟨g,gs,F1,F2,hg,hF,h1,h2⟩=>by
   subst hF
   exact⟨g,gs,F1,F2,hg,rfl,w0f (p:=p) a g F1 (fun b hb=>hk b (hb.imp (fun h=>by simp only[add]; omega) id)) (fun _ h=>h) hr (hp a (List.mem_cons_self ..)) h1,
    j0q (p:=p) (fun b hb=>hk b (hb.imp (fun h=>by simp only[add]; omega) id)) hr (fun x hx=>hp x (List.mem_cons_of_mem _ hx)) h2⟩
theorem u14 {ops:Array Oper} {o:Oper} {ins:Ins} {a:Act} {K:St→Prop} {K':Act→Prop} (hB:Base w N F) (hi:InsK P n ops o ins) (h:iwq0 P ins.d ins.i K σ) (hdef:a.defers=[]) (hn:a.tmps.size=n) (hh:Hold w N lc σ a.tmps F fz)
 (hnext: ∀a' σ',K σ'→a'.defers=[]→a'.tmps.size=n→Hold w N lc σ' a'.tmps F fz→K' a'):o.quiet P a (Qw w) K':=by
 obtain⟨tmps,ds⟩:=a
 simp only at hdef hn hh
 subst hdef
 have hd: ∀k,o.dst=some k→k<tmps.size:=fun k hk=>by rw[hn]; exact (hi.lt k hk).1
 have hV: ∀(hv:IsV P o.op ins.i),(∀f xs,ins.i≠.call f xs)→(∀x xs,ins.i≠.callv x xs)→o.quiet P ⟨tmps,[]⟩ (Qw w) K':=by
  intro hv hnc hncv
  have h':match runV ins.i σ with
   | some (a,σ1)=>K (setT σ1 ins.d a)
   | none=>False:=by
   unfold iwq0 at h
   split at h
   ·rename_i hx; exact absurd hx (hnc _ _)
   ·rename_i hx; exact absurd hx (hncv _ _)
   ·exact h
  split at h'
  case h_2=>exact h'.elim
  rename_i r σ1 hr
  obtain⟨v,G1,k1,k2,k3⟩:=o02 (ds:=[]) hv hr hh
  refine⟨v,fun w2 hw2=>?_,hnext _ (setT σ1 ins.d r) h' (y0i ..) (by rw[x06]; exact hn) ?_⟩
  ·unfold Oper.quietAt
   rw[k1 w2 (.inr hw2.blk)]
   exact⟨rfl,rfl⟩
  ·rw[← hi.dst]
   exact y0j k3 k2 hd
 rcases hi.op with hv | hm | hc
 ·exact hV hv (p0q hv) (k0o hv)
 ·have:runV ins.i σ=none:=x0n hm σ
  unfold iwq0 at h
  split at h
  ·rename_i hx; exact absurd hx (p0p hm _ _)
  ·rename_i hx; exact absurd hx (k0n hm _ _)
  ·rw[this] at h; exact h.elim
 ·obtain⟨d,gd,i⟩:=ins
  obtain⟨dst,op,ty,pos,after,guard⟩:=o
  have hd1:=hi.dst
  simp only at hc hd1 hd h
  subst hd1
  have hC: ∀{c:Call} {f:Nat} {fn:Func} {os:List Operand} {xs:List X} {x0:Operand},op = .call c→c.callee = .value x0→(Act.mk tmps []).eval x0 = .func (.func f) #[] #[]→c.args=os.toArray→P.funcs[f]?=some fn→(fn.name == "runtime.NumGoroutine")=false→fn.body.isNone=false→XL xs os→
   iwqC P dst f xs K σ→Oper.quiet P { dst,op,type:=ty,pos,after,guard } ⟨tmps,[]⟩ (Qw w) K':=by
   intro c f fn os xs x0 hop hcal hev hargs hf hname hbody hx h
   subst hop
   unfold iwqC at h
   split at h
   case h_2=>exact h.elim
   rename_i b as σ1 hl
   obtain⟨r,hsc,hcall,hK⟩:=h
   obtain⟨Gs,hH,k1,_⟩:=p0m (ds:=[]) hl hx hh
   have hH0:Hold w N lc σ1 tmps F fz:=by
    obtain⟨Ft,Fo,hle,ht,ho⟩:=hH
    exact⟨Ft,Fo,fun x=>by have:=hle x; simp only[add,fz] at *; omega,ht,ho⟩
   have hrun: ∀w2:World,(execOp (Act.mk tmps []).eval { dst,op:= .call c,type:=ty,pos,after,guard }).run P w2 = .ok (.enter f (os.map (Act.mk tmps []).eval).toArray) w2:=by
    intro w2
    simp only[execOp,resolve,hcal,hargs,hev,Deferred.ofValue,Sem.run_bind,Sem.run_pure,Result.andThen_ok,invoke,callFunc,run_program,hf,hname,hbody,Bool.false_eq_true,if_false,List.map_toArray,Array.empty_append,Array.append_empty,Array.toList_empty,List.append_nil,List.nil_append]
   have hgo: ∀w2,Qw w w2→Calls P f (os.map (Act.mk tmps []).eval).toArray w2 fun e w3=>(∃g Fg N3 lc3,e = .returned g∧repA w3 N3 lc3 r g Fg)∧Qw w w3:=by
    intro w2 hw2
    have hbk: ∀x,N x∨1≤F x→x<w.heap.size:=fun x hx=>hx.elim (fun h=>(hB.nb x h).2) (hB.lt x)
    have hBc:Base w2 (v0r N F) fz:=⟨fun _=>by simp[fz],fun x hx=>by simp[fz] at hx,fun x hx=>⟨rfl,Nat.lt_of_lt_of_le (hbk x hx) hw2.size⟩⟩
    have hrep:x07 w2 (v0r N F) lc as (os.map (Act.mk tmps []).eval) fz:=
     j0q (p:=fun _ _=>true) (fun b hb=>hw2.blk b (hb.elim (fun h=>by simp[fz] at h) (hbk b))) (fun _ _ h=>by cases h) (s08 hl) k1
    refine (hcall w2 (v0r N F) lc _ fz fz fz hBc (fun _=>Nat.le_refl _) (s08 hl) hrep rfl).mono ?_
    rintro e w3 ⟨g,r',H',N',lc',F',Fr',Fo',rfl,⟨_,rfl⟩,_,hr,_,_,_,hFr'⟩
    exact⟨⟨g,Fr',N',lc',rfl,hr⟩,hw2.trans ⟨fun x hx=>hFr'.keep x hx rfl,hFr'.size,hFr'.os,hFr'.tape,hFr'.output⟩⟩
   have hval: ∃v,repA w N lc r v fz∧∀w3 N3 lc3 g Fg,repA w3 N3 lc3 r g Fg→g=v:=by
    cases r with
    | one c=>exact⟨c.val,n0u hsc,fun w3 N3 lc3 g Fg hg=>l0m hsc hg (n0u (w:=w) (N:=N) (lc:=lc) hsc)⟩
    | agg cs=>exact⟨.agg (cs.map C.val).toArray,⟨_,rfl,s0m hsc⟩,fun w3 N3 lc3 g Fg hg=>t1d (a:= .agg cs) (w':=w) (N':=N) (lc':=lc) (F':=fz) hsc hg ⟨_,rfl,s0m hsc⟩⟩
    | tup xs=>
      have: ∀xs:List (Bool×List C),c0r xs=true→∃gs,u0m w N lc xs gs fz:=by
       intro xs
       induction xs with
       | nil=>intro _; exact⟨[],rfl,rfl⟩
       | cons x xs ih=>
         intro hs
         obtain⟨ag,cs⟩:=x
         simp only[c0r,Bool.and_eq_true] at hs
         obtain⟨⟨hs1,hs3⟩,hs2⟩:=hs
         obtain⟨gs,hg⟩:=ih hs2
         cases ag with
         | true=>exact⟨_ :: gs,_,gs,fz,fz,rfl,(z0g _).symm,⟨_,rfl,s0m hs1⟩,hg⟩
         | false=>
           simp only[Bool.false_or,beq_iff_eq] at hs3
           match cs,hs3,hs1 with
           | [c],_,hs=>
             simp only[w0y,Bool.and_true] at hs
             exact⟨_ :: gs,_,gs,fz,fz,rfl,(z0g _).symm,⟨c,rfl,n0u hs⟩,hg⟩
      obtain⟨gs,hg⟩:=this xs hsc
      exact⟨.tuple gs.toArray,⟨gs,rfl,hg⟩,fun w3 N3 lc3 g Fg hg'=>t1d (a:= .tup xs) (w':=w) (N':=N) (lc':=lc) (F':=fz) hsc hg' ⟨gs,rfl,hg⟩⟩
   obtain⟨v,hv1,hv2⟩:=hval
   refine⟨v,fun w2 hw2=>?_,hnext _ (setT σ1 dst r) hK (y0i ..) (by rw[x06]; exact hn) ?_⟩
   ·unfold Oper.quietAt
    rw[hrun w2]
    refine⟨rfl,(hgo w2 hw2).mono ?_⟩
    rintro e w3 ⟨⟨g,Fg,N3,lc3,rfl,hg⟩,hw3⟩
    exact⟨by rw[hv2 _ _ _ _ _ hg],hw3⟩
   ·exact y0j (ds:=[]) (G1:=fz) (by rw[z0g]; exact hH0) hv1 hd
  cases hc with
  | callr=>
    simp only[iwq0,runV] at h
  | callo=>
    simp only[iwq0,runV] at h
  | calln=>
    simp only[iwq0,runV] at h
  | callz=>
    simp only[iwq0,runV] at h
  | callzr=>
    simp only[iwq0,runV] at h
  | callf=>
    simp only[iwq0,runV] at h
  | callrf=>
    simp only[iwq0,runV] at h
  | callro=>
    simp only[iwq0,runV] at h
  | @call c f fn os xs hcal hargs hf hname hbody hx=>exact hC rfl hcal rfl hargs hf hname hbody hx h
  | @callv c x x0 os xs hcal hx0 hargs hx=>
    unfold iwq0 iwqV at h
    simp only at h
    split at h
    case h_2=>exact h.elim
    rename_i f hev
    obtain⟨⟨fn,h3,h4,h5⟩,h⟩:=h
    have hval:(Act.mk tmps []).eval x0 = .func (.func f) #[] #[]:=by
     obtain⟨G1,⟨_,vs,hv,hrow⟩,_⟩:=y0r (ds:=[]) hx0 hev hh
     simp only[z0m] at hrow
     rw[hv,hrow.1]
    exact hC rfl hcal hval hargs h3 h4 h5 hx h
theorem r0m {ops:Array Oper}: ∀(m:Nat) {l:List Oper} {is:List Ins},InsL P n ops l is→InsL P n ops (l.take m) (is.take m)∧InsL P n ops (l.drop m) (is.drop m)
 | 0,l,is,h=>⟨by simp[InsL],by simpa using h⟩
 | m+1,[],[],_=>⟨by simp[InsL],by simp[InsL]⟩
 | m+1,o :: l,i :: is,⟨h1,h2⟩=>by
   obtain⟨k1,k2⟩:=r0m m h2
   exact⟨⟨h1,k1⟩,k2⟩
 | m+1,[],_ :: _,h=>h.elim
 | m+1,_ :: _,[],h=>h.elim
theorem t12 {ops:Array Oper} {K:St→Prop} {Qf:Act→Prop} (hB:Base w N F): ∀{rest:List Oper} {is:List Ins} {σ:St} {a:Act},InsL P n ops rest is→qwp P is K σ→a.defers=[]→a.tmps.size=n→Hold w N lc σ a.tmps F fz→
 (∀a' σ',K σ'→a'.defers=[]→a'.tmps.size=n→Hold w N lc σ' a'.tmps F fz→Qf a')→wpQuiet P ops (Qw w) Qf rest a
 | [],is,σ,a,hl,h,h1,h2,hh,hq=>by
   cases is with
   | cons=>exact hl.elim
   | nil=>exact hq _ _ h h1 h2 hh
 | o :: os,is,σ,a,hl,h,h1,h2,hh,hq=>by
   cases is with
   | nil=>exact hl.elim
   | cons i is=>
     obtain⟨hi,hl⟩:=hl
     have hnext: ∀a' σ',qwp P is K σ'→a'.defers=[]→a'.tmps.size=n→Hold w N lc σ' a'.tmps F fz→wpQuiet P ops (Qw w) Qf os a':=fun a' σ' k1 k2 k3 k4=>t12 hB hl k1 k2 k3 k4 hq
     refine wpQuiet_step fun Kx hKx=>?_
     simp only[qwp,iwq] at h
     rcases hi.gd with⟨hg,hg'⟩ | ⟨j,want,t,hg,hg',hj⟩
     ·rw[hg'] at h
      simp only at h
      rw[if_pos (by simp[Region.wanted,hg])]
      exact u14 hB hi h h1 h2 hh fun a' σ' k1 k2 k3 k4=>hKx _ (hnext _ _ k1 k2 k3 k4)
     ·rw[hg'] at h
      simp only at h
      split at h
      case h_3=>exact h.elim
      case h_2=>
       rename_i hlk
       have hy:yielded ops a.tmps j≠some want:=by
        obtain⟨Ft,Fo,hle,ht,ho⟩:=hh
        obtain⟨F1,F2,_,⟨gs,hv,hr⟩,_⟩:=x00 σ.tm Ft t _ hlk ht
        rw[Array.getD_eq_getD_getElem?] at hv
        simp only[yielded,hj,Option.bind_some]
        cases hx:a.tmps[t]? with
        | none=>simp
        | some v=>rw[hx] at hv; simp at hv; rw[hv]; simp
       rw[if_neg (by simp[Region.wanted,hg,hy])]
       refine hKx _ (hnext _ _ h (by rw[y0i]; exact h1) (by rw[x06]; exact h2) ?_)
       rw[hi.dst]
       obtain⟨tmps,ds⟩:=a
       exact y0j (ds:=ds) (G1:=fz) (by rw[z0g]; exact hh) ⟨[],rfl,rfl,rfl⟩ (fun k hk=>by simp only at h2; rw[h2]; exact (hi.lt k (by rw[hi.dst]; exact hk)).1)
      rename_i b hlk
      have hy:yielded ops a.tmps j=some b:=by
       obtain⟨Ft,Fo,hle,ht,ho⟩:=hh
       obtain⟨F1,F2,_,hr,_⟩:=x00 σ.tm Ft t _ hlk ht
       have hv:a.tmps.getD t undef = .bool b:=hr.1
       have hv':a.tmps[t]?=some (.bool b):=by
        rw[Array.getD_eq_getD_getElem?] at hv
        cases hx:a.tmps[t]? with
        | none=>rw[hx] at hv; simp[undef] at hv
        | some v=>rw[hx] at hv; simp at hv; rw[hv]
       simp only[yielded,hj,Option.bind_some,hv']
      by_cases hb:b=want
      ·rw[if_pos hb] at h
       rw[if_pos (by simp[Region.wanted,hg,hy,hb])]
       exact u14 hB hi h h1 h2 hh fun a' σ' k1 k2 k3 k4=>hKx _ (hnext _ _ k1 k2 k3 k4)
      ·rw[if_neg hb] at h
       rw[if_neg (by simp[Region.wanted,hg,hy,hb])]
       refine hKx _ (hnext _ _ h (by rw[y0i]; exact h1) (by rw[x06]; exact h2) ?_)
       rw[hi.dst]
       obtain⟨tmps,ds⟩:=a
       exact y0j (ds:=ds) (G1:=fz) (by rw[z0g]; exact hh) ⟨[],rfl,rfl,rfl⟩ (fun k hk=>by simp only at h2; rw[h2]; exact (hi.lt k (by rw[hi.dst]; exact hk)).1)
end
section
variable {P:Program} {ops:Array Oper} {C:World→Prop}
def wpM (P:Program) (ops:Array Oper) (C:World→Prop) (n:Nat) (L:Array Bool→Act→Prop):Nat→Array Bool→Act→Prop
 | 0,listed,a=>L listed a
 | f+1,listed,a=>Region.ready .any ops listed≠[]∧∀i∈Region.ready .any ops listed,i<n∧qOp P ops C i (wpM P ops C n L f (listed.setIfInBounds i true)) a
theorem k0u {n g:Nat} {L:Array Bool→Act→Prop} {Q:Exit→Act→World→Prop} (hL: ∀listed a w,C w→L listed a→wpAny P .any ops Q g listed a w) :
 ∀(f:Nat) (listed:Array Bool) (a:Act) (w:World),C w→wpM P ops C n L f listed a→wpAny P .any ops Q (f+g) listed a w
 | 0,listed,a,w,hw,h=>by rw[Nat.zero_add]; exact hL _ _ _ hw h
 | f+1,listed,a,w,hw,h=>by
   rw[Nat.add_right_comm]
   exact⟨fun h0=>absurd h0 h.1,fun i hi=>wpOp_of_qOp hw (fun a' w' hw' h'=>k0u hL f _ a' w' hw' h') (h.2 i hi).2⟩
theorem s1t {n i:Nat} {oi:Oper} {v:Value} {L:Array Bool→Act→Prop} (hi:ops[i]?=some oi) (hsel:Region.noSelect ops=true)
 (hs:Region.sinkB .any ops n=true) (hc:Region.chainB .any ops n=true) (hn:n<ops.size) (hin:i<n) (hL: ∀listed a,L listed a→∀j∈Region.ready .any ops listed,n≤j) :
 ∀(f:Nat) (listed:Array Bool) (a:Act),HeadInv .any ops n listed→
  (∀j oj,ops[j]?=some oj→j≠i→listed.getD j true=false→(∀e∈oj.after,Region.binds .any e=true→e.on≠i)→oi.apart ops oj=true)→
  i∈Region.ready .any ops listed→YieldsIn P ops C oi v a→wpM P ops C n L f (listed.setIfInBounds i true) (a.put oi.dst v)→wpM P ops C n L (f+1) listed a:=by
 intro f
 induction f with
 | zero=>
   intro listed a inv hfree hr hy H
   have hun:=(mem_ready.1 hr).1
   refine⟨List.ne_nil_of_mem hr,fun j hj=>?_⟩
   have hjn:j<n:=Nat.lt_of_not_le fun h=>tail_waits hs hc hn inv _ i rfl hin hun j h hj
   refine⟨hjn,?_⟩
   rcases Nat.decEq j i with hji | hji
   ·have:=hL _ _ H j (ready_mono hj hji); omega
   ·subst hji; exact hy.qOp hi H
 | succ f ih=>
   intro listed a inv hfree hr hy H
   have hun:=(mem_ready.1 hr).1
   refine⟨List.ne_nil_of_mem hr,fun j hj=>?_⟩
   have hjn:j<n:=Nat.lt_of_not_le fun h=>tail_waits hs hc hn inv _ i rfl hin hun j h hj
   refine⟨hjn,?_⟩
   rcases Nat.decEq j i with hji | hji
   ·obtain⟨hjun,oj,hoj,hall⟩:=mem_ready.1 hj
    have hnot: ∀e∈oj.after,Region.binds .any e=true→e.on≠i:=fun e he hb heq=>by
     have h1:=hall e he hb
     rw[heq,getD_both hun] at h1
     cases h1
    refine qOp_mono (fun a' h3=>ih (listed.setIfInBounds j true) a' (inv.set hj hjn) (fun k ok hk hki hku hno=>?_) (ready_mono hr (Ne.symm hji)) h3.1 ?_)
     (qOp_put hoj (hfree j oj hoj hji hjun hnot) (fun cs b=>Region.noSelect_spec hsel i oi cs b hi) (fun cs b=>Region.noSelect_spec hsel j oj cs b hoj) hy (H.2 j (ready_mono hj hji)).2)
    ·refine hfree k ok hk hki ?_ hno
     rcases Nat.decEq j k with hjk | hjk
     ·rwa [getD_set_ne true hjk] at hku
     ·subst hjk; exact hjun
    ·rw[Array.setIfInBounds_comm _ _ hji]
     exact h3.2
   ·subst hji; exact hy.qOp hi H
theorem z1h {n g:Nat} {Lq:Act→Prop} (hsel:Region.noSelect ops=true) (hs:Region.sinkB .any ops n=true) (hc:Region.chainB .any ops n=true) (hn:n<ops.size) :
 ∀(l:List Oper) (k:Nat) (listed:Array Bool) (a:Act),(∀j,j<l.length→l[j]?=ops[k+j]?)→k+l.length=n→HeadInv .any ops n listed→
 Region.lexHead .any ops g l.length k listed=true→wpQuiet P ops C Lq l a→wpM P ops C n (fun listed' a'=>Region.seqB .any ops g n listed'=true∧Lq a') l.length listed a
 | [],k,listed,a,_,hk,_,hB,h=>by
   have:k=n:=by simpa using hk
   subst this
   exact⟨hB,h⟩
 | o :: l,k,listed,a,hl,hk,inv,hB,h=>by
   have h0:ops[k]?=some o:=by simpa using (hl 0 (by simp)).symm
   simp only[List.length_cons,Region.lexHead,Bool.and_eq_true] at hB
   simp only[List.length_cons] at hk
   have hr:k∈Region.ready .any ops listed:=by simpa using hB.1.1
   have hq:qOp P ops C k (wpQuiet P ops C Lq l) a:=by unfold qOp; simp only[h0]; exact h
   obtain⟨v,hy,hK⟩:=yieldsIn_of_qOp h0 hq
   refine s1t h0 hsel hs hc hn (by omega) (fun _ _ hL=>seqB_ready hL.1) l.length listed a inv (Region.free_spec h0 hB.1.2) hr hy ?_
   refine z1h hsel hs hc hn l (k+1) _ _ (fun j hj=>?_) (by omega) (inv.set hr (by omega)) hB.2 hK
   have:=hl (j+1) (by simp; omega)
   simpa [Nat.add_assoc,Nat.add_comm 1 j] using this
theorem o0i {id n:Nat} {Q:Exit→Act→World→Prop} {a:Act} {w:World} (hm:P.follows .mixedOrders=true) (hB:Region.lexTailB .any ops n=true) (hC:C { w with drawn:=w.drawn+1 })
 (h:wpQuiet P ops C (fun a'=>∀w',C w'→wpList P ops Q (ops.toList.drop n) a' w') (ops.toList.take n) a):(Code.region id ops true).wp P Q a w:=by
 simp only[Region.lexTailB,Bool.and_eq_true,decide_eq_true_eq] at hB
 obtain⟨⟨⟨⟨hsel,hn⟩,hs⟩,hc⟩,hlex⟩:=hB
 have htl:(ops.toList.take n).length=n:=by simp; omega
 have inv0:HeadInv .any ops n (Array.replicate ops.size false):=
  ⟨by simp,fun j oj _ hl=>(by rw[getD_replicate_false] at hl; cases hl),fun t _ ht=>getD_in (by simpa using ht) (getD_replicate_false _ _)⟩
 have H:=z1h (C:=C) (g:=ops.size - n) hsel hs hc hn (ops.toList.take n) 0 _ a (fun j hj=>by
  rw[htl] at hj
  simp[hj]) (by simpa using htl) inv0 (by rw[htl]; exact hlex) h
 refine wp_region_any hm ?_
 have:=k0u (Q:=Q) (g:=ops.size - n) (fun listed a' w' hw' hL=>by
  have hd:(ops.toList.drop n).length=ops.size - n:=by simp
  rw[← hd]
  exact wpAny_of_seq (ops.toList.drop n) n listed a' w' (fun j=>by simp) (by rw[hd]; exact hL.1) (hL.2 w' hw')) _ _ _ _ hC H
 rw[htl] at this
 rwa [show n+(ops.size - n)=ops.size by omega] at this
end
end Go.Am
namespace Go.Am
def Q0:Exit→Act→World→Prop:=fun _ _ _=>False
section
variable {P:Program} {ops:Array Oper} {C:World→Prop}
theorem wp_Q0 {o:Oper} {a:Act} {w:World} {K:Act→World→Prop} {Q:Exit→Act→World→Prop} (h:o.wp P a w K Q0):o.wp P a w K Q:=by
 unfold Oper.wp at *
 generalize (execOp a.eval o).run P w=r at *
 cases r with
 | ok n w'=>
   cases n <;> simp only[Oper.upon] at h ⊢
   case value=>exact h
   case skip=>exact h
   case defer=>exact h
   case enter=>
    refine Calls.mono h fun e w'' he=>?_
    cases e with
    | returned=>exact he
    | panicked=>exact he.elim
    | outgrown=>obtain⟨_,_,h⟩:=he; exact h.elim
   case row=>exact h
 | halt x w'=>
   cases x <;> simp only[Oper.upon] at h ⊢
   case panic=>exact h.elim
theorem s1u {i:Nat} {a:Act} {w:World} {K:Act→World→Prop} {Q:Exit→Act→World→Prop} (h:wpOp P ops Q0 i K a w):wpOp P ops Q i K a w:=by
 unfold wpOp at *
 split
 ·rename_i ho; simpa [ho] using h
 ·rename_i o ho
  simp only[ho] at h
  split
  ·rename_i hw
   simp only[hw,if_true] at h
   rcases h with h | ⟨_,_,_,h⟩
   ·exact .inl (wp_Q0 h)
   ·exact h.elim
  ·rename_i hw; simpa [hw] using h
def wpG (P:Program) (ops:Array Oper) (C:World→Prop) (n:Nat) (L:Array Bool→Act→World→Prop):Nat→Array Bool→Act→World→Prop
 | 0,listed,a,w=>L listed a w
 | f+1,listed,a,w=>Region.ready .any ops listed≠[]∧∀i∈Region.ready .any ops listed,i<n∧wpOp P ops Q0 i (fun a' w'=>C w'∧wpG P ops C n L f (listed.setIfInBounds i true) a' w') a w
theorem o09 {n g:Nat} {L:Array Bool→Act→World→Prop} {Q:Exit→Act→World→Prop} (hL: ∀listed a w,L listed a w→wpAny P .any ops Q g listed a w) :
 ∀(f:Nat) (listed:Array Bool) (a:Act) (w:World),wpG P ops C n L f listed a w→wpAny P .any ops Q (f+g) listed a w
 | 0,listed,a,w,h=>by rw[Nat.zero_add]; exact hL _ _ _ h
 | f+1,listed,a,w,h=>by
   rw[Nat.add_right_comm]
   exact⟨fun h0=>absurd h0 h.1,fun i hi=>wpOp_mono (fun a' w' h'=>o09 hL f _ a' w' h'.2) (s1u (h.2 i hi).2)⟩
theorem k03 {n i:Nat} {oi:Oper} {v:Value} {L:Array Bool→Act→World→Prop} (hi:ops[i]?=some oi) (hsel:Region.noSelect ops=true)
 (hs:Region.sinkB .any ops n=true) (hc:Region.chainB .any ops n=true) (hn:n<ops.size) (hin:i<n) (hL: ∀listed a w,L listed a w→∀j∈Region.ready .any ops listed,n≤j) :
 ∀(f:Nat) (listed:Array Bool) (a:Act) (w:World),HeadInv .any ops n listed→
  (∀j oj,ops[j]?=some oj→j≠i→listed.getD j true=false→(∀e∈oj.after,Region.binds .any e=true→e.on≠i)→oi.apart ops oj=true)→
  i∈Region.ready .any ops listed→YieldsIf P ops C oi v a→C w→wpG P ops C n L f (listed.setIfInBounds i true) (a.put oi.dst v) w→wpG P ops C n L (f+1) listed a w:=by
 intro f
 induction f with
 | zero=>
   intro listed a w inv hfree hr hy hw H
   have hun:=(mem_ready.1 hr).1
   refine⟨List.ne_nil_of_mem hr,fun j hj=>?_⟩
   have hjn:j<n:=Nat.lt_of_not_le fun h=>tail_waits hs hc hn inv _ i rfl hin hun j h hj
   refine⟨hjn,?_⟩
   rcases Nat.decEq j i with hji | hji
   ·have:=hL _ _ _ H j (ready_mono hj hji); omega
   ·subst hji; exact hy.wpOp hi hw ⟨hw,H⟩
 | succ f ih=>
   intro listed a w inv hfree hr hy hw H
   have hun:=(mem_ready.1 hr).1
   refine⟨List.ne_nil_of_mem hr,fun j hj=>?_⟩
   have hjn:j<n:=Nat.lt_of_not_le fun h=>tail_waits hs hc hn inv _ i rfl hin hun j h hj
   refine⟨hjn,?_⟩
   rcases Nat.decEq j i with hji | hji
   ·obtain⟨hjun,oj,hoj,hall⟩:=mem_ready.1 hj
    have hnot: ∀e∈oj.after,Region.binds .any e=true→e.on≠i:=fun e he hb heq=>by
     have h1:=hall e he hb
     rw[heq,getD_both hun] at h1
     cases h1
    refine wpOp_mono (fun a' w' h3=>⟨h3.2.1,ih (listed.setIfInBounds j true) a' w' (inv.set hj hjn) (fun k ok hk hki hku hno=>?_) (ready_mono hr (Ne.symm hji)) h3.1 h3.2.1 ?_⟩)
     (wpOp_putIf hoj (hfree j oj hoj hji hjun hnot) (fun cs b=>Region.noSelect_spec hsel i oi cs b hi) (fun cs b=>Region.noSelect_spec hsel j oj cs b hoj) (fun _ _ _ h=>h) hy (H.2 j (ready_mono hj hji)).2)
    ·refine hfree k ok hk hki ?_ hno
     rcases Nat.decEq j k with hjk | hjk
     ·rwa [getD_set_ne true hjk] at hku
     ·subst hjk; exact hjun
    ·rw[Array.setIfInBounds_comm _ _ hji]
     exact h3.2.2
   ·subst hji; exact hy.wpOp hi hw ⟨hw,H⟩
end
section
variable {P:Program} {w:World} {N:Nat→Prop} {lc:Loc} {tmps:Array Value} {F G:Fp} {σ σ1:St} {n:Nat}
theorem h06 {α:Type} {d t:Nat} (h:t≠d): ∀l:List (Nat×α),look (del l d) t=look l t
 | []=>rfl
 | (k,a) :: r=>by
   simp only[del]
   split
   ·rename_i hk; subst hk; simp only[look,if_neg (Ne.symm h)]; exact h06 h r
   ·simp only[look]; split
    ·rfl
    ·exact h06 h r
theorem f0q {t:Nat}: ∀(ds:List Nat) (l:List (Nat×A)),t ∉ ds→look (delL ds l) t=look l t
 | [],_,_=>rfl
 | d :: ds,l,h=>by
   simp only[List.mem_cons,not_or] at h
   simp only[delL]
   rw[f0q ds _ h.2,h06 h.1]
theorem a04 {t:Nat}: ∀(es l:List (Nat×A)),t ∉ es.map (·.1)→look (es ++ l) t=look l t
 | [],_,_=>rfl
 | (k,a) :: es,l,h=>by
   simp only[List.map_cons,List.mem_cons,not_or] at h
   simp only[List.cons_append,look,if_neg (Ne.symm h.1)]
   exact a04 es l h.2
theorem q1o {σ σ':St} (h:σ'.ob=σ.ob) (a:A):q06 σ' a=q06 σ a:=by
 have hc: ∀c,v0q σ' c=v0q σ c:=fun c=>by cases c <;> simp only[v0q,h]
 have hcs: ∀cs,u0k σ' cs=u0k σ cs:=fun cs=>by induction cs with | nil=>rfl | cons c cs ih=>simp only[u0k,hc,ih]
 cases a with
 | one c=>simp only[q06,hc]
 | agg cs=>simp only[q06,hcs]
 | tup xs=>rfl
theorem j0c {σ σ':St} (hob:σ'.ob=σ.ob): ∀{xs:List X} {b:Bool} {as:List A},(∀x∈xs,∀t∈tX x,look σ'.tm t=look σ.tm t)→k0l σ xs=some (b,as)→u0r σ' xs=some (b,as,σ')
 | [],b,as,_,h=>by
   simp only[k0l,Option.some.injEq,Prod.mk.injEq] at h
   obtain⟨rfl,rfl⟩:=h
   rfl
 | x :: xs,b,as,hl,h=>by
   simp only[k0l] at h
   cases hev:ev σ x with
   | none=>rw[hev] at h; simp at h
   | some a=>
     rw[hev] at h
     simp only at h
     split at h
     case isTrue=>cases h
     rename_i haff
     cases hla:q06 σ a with
     | none=>rw[hla] at h; simp at h
     | some p=>
       obtain⟨b1,a1⟩:=p
       rw[hla] at h
       cases hlq:k0l σ xs with
       | none=>rw[hlq] at h; simp at h
       | some q=>
         obtain⟨b2,r⟩:=q
         rw[hlq] at h
         simp only[Option.some.injEq,Prod.mk.injEq] at h
         obtain⟨rfl,rfl⟩:=h
         have hev':v06 σ' x=some (a,σ'):=by
          cases x with
          | c c=>simp only[ev,Option.some.injEq] at hev; subst hev; rfl
          | t k=>
            have h1:=hl (.t k) (List.mem_cons_self ..) k (by simp[tX])
            simp only[ev] at hev
            simp only[v06,h1,hev]
            rw[if_neg haff]
         simp only[u0r,hev',q1o hob,hla,j0c hob (fun y hy=>hl y (List.mem_cons_of_mem _ hy)) hlq]
theorem y1y {tm tm':List (Nat×A)} (hp:tm.Perm tm'): ∀{F:Fp},x0u w N lc tmps tm F→x0u w N lc tmps tm' F:=by
 induction hp with
 | nil=>intro F h; exact h
 | cons x _ ih=>
   intro F h
   obtain⟨k,a⟩:=x
   obtain⟨F1,F2,hF,h1,h2⟩:=h
   exact⟨F1,F2,hF,h1,ih h2⟩
 | swap x y l=>
   intro F h
   obtain⟨k,a⟩:=x
   obtain⟨k',a'⟩:=y
   obtain⟨F1,F2,rfl,h1,F3,F4,rfl,h3,h4⟩:=h
   exact⟨F3,add F1 F4,by funext z; simp only[add]; omega,h3,F1,F4,rfl,h1,h4⟩
 | trans _ _ ih1 ih2=>intro F h; exact ih2 (ih1 h)
theorem j0u: ∀(ds:List Nat) {tm:List (Nat×A)} {F:Fp},x0u w N lc tmps tm F→∃F',(∀b,F' b≤F b)∧x0u w N lc tmps (delL ds tm) F'
 | [],_,F,h=>⟨F,fun _=>Nat.le_refl _,h⟩
 | d :: ds,tm,F,h=>by
   obtain⟨F1,h1,h2⟩:=l0n d tm F h
   obtain⟨F2,h3,h4⟩:=j0u ds h2
   exact⟨F2,fun b=>Nat.le_trans (h3 b) (h1 b),h4⟩
theorem g0l {d:Nat}: ∀{l:List (Nat×A)},(∀k a,(k,a)∈l→k≠d)→del l d=l
 | [],_=>rfl
 | (k,a) :: r,h=>by
   simp only[del,if_neg (h k a (List.mem_cons_self ..))]
   rw[g0l fun k' a' hm=>h k' a' (List.mem_cons_of_mem _ hm)]
theorem q0t {d k:Nat} {a:A}: ∀{l:List (Nat×A)},(k,a)∈del l d→(k,a)∈l
 | [],h=>by simp[del] at h
 | (k',a') :: r,h=>by
   simp only[del] at h
   split at h
   ·exact List.mem_cons_of_mem _ (q0t h)
   ·rcases List.mem_cons.1 h with h | h
    ·rw[h]; exact List.mem_cons_self ..
    ·exact List.mem_cons_of_mem _ (q0t h)
theorem a07 {k:Nat} {a:A}: ∀{ds:List Nat} {l:List (Nat×A)},(k,a)∈delL ds l→(k,a)∈l∧k ∉ ds
 | [],_,h=>⟨h,by simp⟩
 | d :: ds,l,h=>by
   simp only[delL] at h
   obtain⟨h1,h2⟩:=a07 h
   refine⟨q0t h1,?_⟩
   simp only[List.mem_cons,not_or]
   exact⟨h07 d l k a h1,h2⟩
structure GI where
 idx:Nat
 d:Nat
 f:Nat
 xs:List X
 b:Bool
 as:List A
 v:A
structure GI.Ok (P:Program) (σ0:St) (ds:List Nat) (is:List Ins) (g:GI):Prop where
 ins:is[g.idx]?=some ⟨some g.d,none,.call g.f g.xs⟩
 md:g.d∈ds
 tx: ∀x∈g.xs,∀t∈tX x,t ∉ ds
 ld:k0l σ0 g.xs=some (g.b,g.as)
 cl:CallsA P g.f g.as [] fun r H=>H=[]∧r=g.v
 ns:g.b=true→u0s g.v=true
def GI.e (g:GI):Nat×A:=(g.d,g.v)
theorem g0r {σ0:St} {ds:List Nat} {is:List Ins} {K:St→Prop}: ∀{gs:List Nat} {es:List (Nat×A)},(∀i∈gs,∃x,is[i]?=some x∧(p0a x).isSome=true∧(∀d,x.d=some d→d∈ds)∧∀d f xs,p0a x=some (d,f,xs)→∀y∈xs,∀t∈tX y,t ∉ ds)→
 gwp P ds (y0g is gs) es K σ0→∃items:List GI,items.map GI.idx=gs∧(∀g∈items,g.Ok P σ0 ds is)∧K { tm:=es ++ items.map GI.e ++ delL ds σ0.tm,ob:=σ0.ob }
 | [],es,_,h=>⟨[],rfl,by simp,by simpa [y0g,gwp] using h⟩
 | i :: gs,es,hg,h=>by
   obtain⟨x,hx,hcall,hd,htx⟩:=hg i (List.mem_cons_self ..)
   simp only[y0g,hx] at h
   obtain⟨d,gd,ii⟩:=x
   cases d with
   | none=>simp[p0a] at hcall
   | some d=>
     cases gd with
     | some g=>simp[p0a] at hcall
     | none=>
       cases ii with
       | call f xs=>
         simp only[gwp] at h
         cases hl:k0l σ0 xs with
         | none=>rw[hl] at h; exact h.elim
         | some p=>
           obtain⟨b,as⟩:=p
           rw[hl] at h
           obtain⟨v,h1,h2,h3⟩:=h
           obtain⟨items,h4,h5,h6⟩:=g0r (fun j hj=>hg j (List.mem_cons_of_mem _ hj)) h3
           refine⟨⟨i,d,f,xs,b,as,v⟩ :: items,by simp[h4],fun g hgm=>?_,by simpa [GI.e,List.append_assoc] using h6⟩
           rcases List.mem_cons.1 hgm with rfl | hgm
           ·exact⟨hx,hd d rfl,htx d f xs rfl,hl,h1,h2⟩
           ·exact h5 g hgm
       | _=>simp[p0a] at hcall
theorem n0j {ops:Array Oper}: ∀{l:List Oper} {is:List Ins} {i:Nat} {o:Oper},InsL P n ops l is→l[i]?=some o→∃x,is[i]?=some x∧InsK P n ops o x
 | [],_,_,_,_,h=>by simp at h
 | _ :: _,[],_,_,h,_=>h.elim
 | o' :: l,x :: is,0,o,h,ho=>by
   simp only[List.getElem?_cons_zero,Option.some.injEq] at ho
   subst ho
   exact⟨x,rfl,h.1⟩
 | o' :: l,x :: is,i+1,o,h,ho=>by
   obtain⟨y,h1,h2⟩:=n0j h.2 (by simpa using ho)
   exact⟨y,by simpa using h1,h2⟩
theorem k0s {op:Op} {i:I} (h:IsC P op i) (σ:St):runV i σ=none:=by
 cases h <;> rfl
theorem a00 {ops:Array Oper} {is:List Ins} {m f:Nat} {K:St→Prop} {L:Array Bool→Act→World→Prop} (hB:Base w N F) (hil:InsL P n ops ops.toList is) (hsel:Region.noSelect ops=true)
 (hs:Region.sinkB .any ops m=true) (hc:Region.chainB .any ops m=true) (hm:m<ops.size) (hL: ∀listed a w,L listed a w→∀j∈Region.ready .any ops listed,m≤j) :
 ∀(qs:List Nat) (listed:Array Bool) (a:Act) (σ:St),j08 ops m qs listed=true→HeadInv .any ops m listed→qvp (y0g is qs) K σ→a.defers=[]→a.tmps.size=n→Hold w N lc σ a.tmps F fz→
  (∀a' σ',K σ'→a'.defers=[]→a'.tmps.size=n→Hold w N lc σ' a'.tmps F fz→HeadInv .any ops m (k0t qs listed)→wpG P ops (Qw w) m L f (k0t qs listed) a' w)→wpG P ops (Qw w) m L (f+qs.length) listed a w
 | [],listed,a,σ,_,inv,h,h1,h2,hh,hk=>hk a σ h h1 h2 hh inv
 | i :: qs,listed,a,σ,hb,inv,h,h1,h2,hh,hk=>by
   simp only[j08,Bool.and_eq_true,decide_eq_true_eq] at hb
   obtain⟨⟨⟨⟨him,hrd⟩,hfr⟩,hgd⟩,hb⟩:=hb
   have hr:i∈Region.ready .any ops listed:=by simpa using hrd
   obtain⟨_,oi,hoi,_⟩:=mem_ready.1 hr
   rw[hoi] at hgd
   simp only[Option.map_some,Option.getD_some,Option.isNone_iff_eq_none] at hgd
   obtain⟨x,hx,hi⟩:=n0j hil (i:=i) (o:=oi) (by simpa using hoi)
   simp only[y0g,hx,qvp] at h
   split at h
   case h_2=>exact h.elim
   rename_i r σ1 hgx hrun
   have hv:IsV P oi.op x.i:=by
    rcases hi.op with hv | hv | hv
    ·exact hv
    ·rw[x0n hv] at hrun; cases hrun
    ·rw[k0s hv] at hrun; cases hrun
   obtain⟨tmps,ds⟩:=a
   simp only at h1 h2 hh
   subst h1
   obtain⟨v,G1,k1,k2,k3⟩:=o02 (ds:=[]) hv hrun hh
   have hy:YieldsIf P ops (Qw w) oi v ⟨tmps,[]⟩:= .inl ⟨by simp[Region.wanted,hgd],fun w2 hw2=>k1 w2 (.inr hw2.blk)⟩
   rw[List.length_cons,← Nat.add_assoc]
   refine k03 hoi hsel hs hc hm him hL _ _ _ _ inv (Region.free_spec hoi hfr) hr hy (Qw.refl w) ?_
   have hd: ∀k,oi.dst=some k→k<tmps.size:=fun k hk=>by rw[h2]; exact (hi.lt k hk).1
   refine a00 hB hil hsel hs hc hm hL qs _ _ _ hb (inv.set hr him) h (by rw[y0i]) (by rw[x06]; exact h2) ?_ hk
   rw[← hi.dst]
   exact y0j k3 k2 hd
theorem o1q {w0:World} {F0:Fp} {N0:Nat→Prop} {lc0:Loc} {a:Act} {tm tm':List (Nat×A)} {ob:List (Nat×Obj)} (hp:tm.Perm tm') (h:SR w0 F0 N0 lc0 n ⟨tm,ob⟩ a w):SR w0 F0 N0 lc0 n ⟨tm',ob⟩ a w:=by
 obtain⟨h1,h2,N,lc,F,hB,⟨Ft,Fo,hle,ht,ho⟩,hFr⟩:=h
 exact⟨h1,h2,N,lc,F,hB,⟨Ft,Fo,hle,y1y hp ht,ho⟩,hFr⟩
theorem r1k {w0:World} {F0:Fp} {N0:Nat→Prop} {lc0:Loc} {ops:Array Oper} {is:List Ins} {m:Nat} {qs:List Nat} {L:Array Bool→Act→World→Prop} {σ0:St} {dl:List Nat} {items:List GI} (hil:InsL P n ops ops.toList is)
 (hs:Region.sinkB .any ops m=true) (hc:Region.chainB .any ops m=true) (hm:m<ops.size) (hgd: ∀g∈items,∀o,ops[g.idx]?=some o→∀e∈o.after,Region.binds .any e=true→e.on∈qs)
 (hL: ∀listed a w done,HeadInv .any ops m listed→(∀j,j<m→listed.getD j true=true)→List.Perm done items→SR w0 F0 N0 lc0 n ⟨done.map GI.e ++ delL dl σ0.tm,σ0.ob⟩ a w→L listed a w) :
 ∀(k:Nat) (rem done:List GI) (listed:Array Bool) (a:Act) (wt:World),rem.length=k→List.Perm (done ++ rem) items→(∀g∈done ++ rem,g.Ok P σ0 dl is)→((done ++ rem).map GI.d).Nodup→(rem.map GI.idx).Nodup→
  (∀g∈rem,g.idx<m∧listed.getD g.idx true=false)→(∀j,j<m→listed.getD j true=false→∃g∈rem,g.idx=j)→(∀q∈qs,listed.getD q false=true)→HeadInv .any ops m listed→Qw w wt→
  SR w0 F0 N0 lc0 n ⟨done.map GI.e ++ delL dl σ0.tm,σ0.ob⟩ a wt→wpG P ops (Qw w) m L k listed a wt:=by
 intro k
 induction k with
 | zero=>
   intro rem done listed a wt hk hp hok hnd hni hun hcov hq inv hw hsr
   have:rem=[]:=List.eq_nil_of_length_eq_zero hk
   subst this
   rw[List.append_nil] at hp
   refine hL _ _ _ done inv (fun j hj=>?_) hp hsr
   cases hh:listed.getD j true with
   | true=>rfl
   | false=>obtain⟨g,hg,_⟩:=hcov j hj hh; cases hg
 | succ k ih=>
   intro rem done listed a wt hk hp hok hnd hni hun hcov hq inv hw hsr
   cases hrem:rem with
   | nil=>rw[hrem] at hk; simp at hk
   | cons g0 r0=>
     have hg0:g0∈rem:=by rw[hrem]; exact List.mem_cons_self ..
     obtain⟨hg0m,hg0u⟩:=hun g0 hg0
     have hready0:g0.idx∈Region.ready .any ops listed:=by
      have ho:ops[g0.idx]?=some ops[g0.idx]:=Array.getElem?_eq_getElem (by omega)
      refine mem_ready.2 ⟨hg0u,_,ho,fun e he hb=>?_⟩
      exact hq _ (hgd g0 (hp.mem_iff.1 (List.mem_append.2 (.inr hg0))) _ ho e he hb)
     refine⟨List.ne_nil_of_mem hready0,fun i hi=>?_⟩
     have him:i<m:=Nat.lt_of_not_le fun h=>tail_waits hs hc hm inv _ g0.idx rfl hg0m hg0u i h hi
     refine⟨him,?_⟩
     obtain⟨hiu,o,ho,_⟩:=mem_ready.1 hi
     obtain⟨g,hg,rfl⟩:=hcov i him hiu
     obtain⟨r1,r2,rfl⟩:=List.append_of_mem hg
     have hgall:g∈done ++ (r1 ++ g :: r2):=List.mem_append.2 (.inr hg)
     have hgo:=hok g hgall
     obtain⟨x,hx,hins⟩:=n0j hil (i:=g.idx) (o:=o) (by simpa using ho)
     rw[hgo.ins] at hx
     simp only[Option.some.injEq] at hx
     subst hx
     have hguard:o.guard=none:=by
      rcases hins.gd with⟨h,_⟩ | ⟨_,_,_,_,h,_⟩
      ·exact h
      ·cases h
     have hdst:o.dst=some g.d:=hins.dst
     have hdone: ∀g'∈done,g'.d∈dl:=fun g' h=>(hok g' (List.mem_append.2 (.inl h))).md
     have hne: ∀g'∈done,g'.d≠g.d:=fun g' h heq=>by
      rw[List.map_append,List.nodup_append] at hnd
      exact hnd.2.2 _ (List.mem_map_of_mem h) _ (List.mem_map_of_mem hg) heq
     have hlookeq: ∀x∈g.xs,∀t∈tX x,look (done.map GI.e ++ delL dl σ0.tm) t=look σ0.tm t:=fun x hxm t ht=>by
      have htd:=hgo.tx x hxm t ht
      rw[a04 _ _ (fun hmem=>by
       simp only[List.map_map,List.mem_map,Function.comp] at hmem
       obtain⟨g',hg',rfl⟩:=hmem
       exact htd (hdone g' hg')),f0q _ _ htd]
     have hlx:=j0c (σ:=σ0) (σ':=⟨done.map GI.e ++ delL dl σ0.tm,σ0.ob⟩) rfl hlookeq hgo.ld
     have hcall:q0i P o.dst g.f g.xs (fun σ'=>σ'=setT ⟨done.map GI.e ++ delL dl σ0.tm,σ0.ob⟩ (some g.d) g.v) ⟨done.map GI.e ++ delL dl σ0.tm,σ0.ob⟩:=by
      unfold q0i
      rw[hlx]
      exact CallsA.mono hgo.cl fun r H ⟨h1,h2⟩=>⟨h1,fun hb=>by rw[h2]; exact hgo.ns hb,by rw[h2,hdst]⟩
     unfold wpOp
     rw[ho]
     simp only
     rw[if_pos (by simp[Region.wanted,hguard])]
     left
     have hkey:o.wp P a wt (fun a' w'=>(∃σ',σ'=setT ⟨done.map GI.e ++ delL dl σ0.tm,σ0.ob⟩ (some g.d) g.v∧SR w0 F0 N0 lc0 n σ' a' w')∧Qw wt w') Q0:=by
      obtain⟨dst,op,ty,pos,after,guard⟩:=o
      have hop:=hins.op
      simp only at hop hguard hdst
      rcases hop with hv | hv | hv
      ·exact absurd rfl (p0q hv g.f g.xs)
      ·exact absurd rfl (p0p hv g.f g.xs)
      ·cases hv with
       | @call c f fn os xs h1 h2 h3 h4 h5 h6=>
         exact r01 (o:={ dst,op:= .call c,type:=ty,pos,after,guard }) rfl h1 rfl h2 h3 h4 h5 h6 (fun k hk=>(hins.lt k hk).1) hcall hsr
     refine Oper.wp_mono (fun a' w' h=>?_) hkey
     obtain⟨⟨σ',rfl,hsr'⟩,hw'⟩:=h
     refine⟨hw.trans hw',?_⟩
     have hset:setT ⟨done.map GI.e ++ delL dl σ0.tm,σ0.ob⟩ (some g.d) g.v=⟨(g :: done).map GI.e ++ delL dl σ0.tm,σ0.ob⟩:=by
      have hd:del (done.map GI.e ++ delL dl σ0.tm) g.d=done.map GI.e ++ delL dl σ0.tm:=g0l fun k a hm=>by
       rcases List.mem_append.1 hm with hm | hm
       ·simp only[List.mem_map,GI.e,Prod.mk.injEq] at hm
        obtain⟨g',hg',rfl,_⟩:=hm
        exact hne g' hg'
       ·intro heq
        subst heq
        exact (a07 hm).2 hgo.md
      simp only[setT,put,hd,List.map_cons,List.cons_append]
      rfl
     rw[hset] at hsr'
     have hlen:(r1 ++ r2).length=k:=by simp at hk ⊢; omega
     have hperm2:List.Perm ((g :: done) ++ (r1 ++ r2)) (done ++ (r1 ++ g :: r2)):=by
      rw[List.cons_append,← List.append_assoc,← List.append_assoc]
      exact (List.perm_middle (l₁:=done ++ r1) (l₂:=r2) (a:=g)).symm
     have hni2:(r1.map GI.idx ++ g.idx :: r2.map GI.idx).Nodup:=by simpa using hni
     have hni3:g.idx ∉ (r1 ++ r2).map GI.idx∧((r1 ++ r2).map GI.idx).Nodup:=by
      have:=(List.perm_middle (l₁:=r1.map GI.idx) (l₂:=r2.map GI.idx) (a:=g.idx)).nodup_iff.1 hni2
      rw[List.nodup_cons] at this
      simpa using this
     refine ih (r1 ++ r2) (g :: done) _ a' w' hlen (hperm2.trans hp) (fun g' hg'=>hok g' (hperm2.mem_iff.1 hg')) ((hperm2.map GI.d).nodup_iff.2 hnd) hni3.2 (fun g' hg'=>?_) (fun j hj hju=>?_) (fun q hqm=>getD_set_true (hq q hqm)) (inv.set hi him) (hw.trans hw') hsr'
     ·have hmem:g'∈r1 ++ g :: r2:=by
       rcases List.mem_append.1 hg' with h | h
       ·exact List.mem_append.2 (.inl h)
       ·exact List.mem_append.2 (.inr (List.mem_cons_of_mem _ h))
      obtain⟨h1,h2⟩:=hun g' hmem
      refine⟨h1,?_⟩
      rw[getD_set_ne true (fun heq=>hni3.1 (by rw[heq]; exact List.mem_map_of_mem hg'))]
      exact h2
     ·by_cases hjg:g.idx=j
      ·subst hjg
       rw[Array.getD_eq_getD_getElem?,Array.getElem?_setIfInBounds_self_of_lt (by rw[inv.size]; omega)] at hju
       simp at hju
      ·rw[getD_set_ne true hjg] at hju
       obtain⟨g',hg',rfl⟩:=hcov j hj hju
       refine⟨g',?_,rfl⟩
       rcases List.mem_append.1 hg' with h | h
       ·exact List.mem_append.2 (.inl h)
       ·rcases List.mem_cons.1 h with rfl | h
        ·exact absurd rfl hjg
        ·exact List.mem_append.2 (.inr h)
end
end Go.Am
namespace Go.Am
section
variable {P:Program}
def Qs {α:Type} (P:Program) (s:Sem α):Prop:=∀w x w',s.run P w = .ok x w'→Qw w w'
theorem Qs.pure' {α:Type} (x:α):Qs P (pure x:Sem α):=fun w y w' h=>by
 rw[Sem.run_pure] at h
 injection h with _ h
 subst h
 exact Qw.refl w
theorem Qs.bind' {α β:Type} {s:Sem α} {f:α→Sem β} (hs:Qs P s) (hf: ∀x,Qs P (f x)):Qs P (s >>= f):=by
 intro w y w' h
 rw[Sem.run_bind] at h
 cases hr:s.run P w with
 | ok x w1=>rw[hr] at h; exact (hs w x w1 hr).trans (hf x w1 y w' h)
 | halt e w1=>rw[hr] at h; simp[Result.andThen] at h
theorem Qs.und (t:TypeId):Qs P (underlying t):=by
 intro w x w' h
 cases hu:P.underlying t with
 | some d=>rw[run_underlying hu] at h; injection h with _ h; subst h; exact Qw.refl _
 | none=>simp[underlying,run_program,hu,stuck] at h
theorem Qs.tinfo (t:TypeId):Qs P (typeInfo t):=by
 intro w x w' h
 cases hu:P.info? t with
 | some d=>
   simp[typeInfo,run_program,hu] at h
   obtain⟨_,rfl⟩:=h; exact Qw.refl _
 | none=>simp[typeInfo,run_program,hu,stuck] at h
theorem Qs.none' {α:Type} {s:Sem α} (h: ∀w x w',s.run P w≠.ok x w'):Qs P s:=fun w x w' hh=>absurd hh (h w x w')
theorem Qs.stuck' {α:Type} (m:String):Qs P (stuck m:Sem α):=Qs.none' fun w x w'=>by simp[stuck]
theorem Qs.unsup {α:Type} (u:Unsupported):Qs P (unsupported u:Sem α):=Qs.none' fun w x w'=>by simp[unsupported]
theorem Qs.szOf (t:TypeId):Qs P (sizeOf t):=Qs.bind' (Qs.tinfo t) fun _=>Qs.pure' _
theorem Qs.zero (t:TypeId):Qs P (zeroValue t):=by
 refine Qs.bind' (Qs.tinfo t) fun i=>?_
 cases i.zero with
 | some v=>exact Qs.pure' _
 | none=>exact Qs.unsup _
theorem Qs.obj (o:Go.Obj):Qs P (newObj o):=by
 intro w x w' h
 have:(newObj o).run P w = .ok w.heap.size (w.alloc o):=by rfl
 rw[this] at h
 injection h with _ h
 subst h
 refine⟨fun b hb=>?_,by show w.heap.size≤(w.heap.push o).size; simp,rfl,rfl,rfl⟩
 show (w.heap.push o)[b]?=w.heap[b]?
 rw[Array.getElem?_push_lt hb]; simp[hb]
theorem Qs.lmap {α β:Type} {f:α→Sem β} (hf: ∀x,Qs P (f x)): ∀l:List α,Qs P (l.mapM f)
 | []=>by rw[List.mapM_nil]; exact Qs.pure' _
 | x :: l=>by
   rw[List.mapM_cons]
   exact Qs.bind' (hf x) fun _=>Qs.bind' (Qs.lmap hf l) fun _=>Qs.pure' _
theorem Qs.build (t:TypeId) (ps:Array (Nat×Value)):Qs P (Instr.build t ps):=by
 unfold Instr.build
 refine Qs.bind' (Qs.zero t) fun z=>Qs.bind' (Qs.und t) fun d=>?_
 cases d with
 | struct fields=>
   refine Qs.bind' ?_ fun pl=>?_
   ·rw[Array.mapM_eq_mapM_toList]
    exact Qs.bind' (Qs.lmap (fun f=>Qs.bind' (Qs.szOf _) fun _=>Qs.pure' _) _) fun _=>Qs.pure' _
   ·split
    ·exact Qs.pure' _
    ·exact Qs.stuck' _
 | array n e=>
   refine Qs.bind' (Qs.szOf e) fun sz=>?_
   split
   ·exact Qs.pure' _
   ·exact Qs.stuck' _
 | _=>exact Qs.stuck' _
theorem Qs.buildSlice (t:TypeId) (n:Nat) (ps:Array (Nat×Value)):Qs P (Instr.buildSlice t n ps):=by
 unfold Instr.buildSlice
 refine Qs.bind' (Qs.und t) fun d=>?_
 cases d with
 | slice e=>
   refine Qs.bind' (Qs.szOf e) fun sz=>?_
   dsimp only
   have hj: ∀z:Array Value,Qs P (match Instr.fill (fun i=>some (i*sz,sz)) ((Array.range (n*sz)).map (fun x=>z[x % z.size]!)) ps.toList with
    | some cells=>(do pure (Value.slice (some (← newRow e cells)) n n):Sem Value)
    | _=>stuck "buildSlice: a part of the wrong size"):=fun z=>by
    split
    ·exact Qs.bind' (Qs.bind' (Qs.obj _) fun _=>Qs.pure' _) fun _=>Qs.pure' _
    ·exact Qs.stuck' _
   by_cases c1:n*sz>2 ^ 24
   ·rw[if_pos c1]
    intro w x w' h
    rw[Sem.run_bind] at h
    simp[unsupported] at h
   ·rw[if_neg c1]
    by_cases c2:n*sz=0
    ·rw[if_pos c2]
     exact Qs.bind' (Qs.pure' _) fun z=>hj z
    ·rw[if_neg c2]
     exact Qs.bind' (Qs.zero e) fun _=>Qs.bind' (Qs.pure' _) fun z=>hj z
 | _=>exact Qs.stuck' _
theorem Qw.alloc (w:World) (o:Go.Obj):Qw w (w.alloc o):=
 ⟨fun b hb=>by
   show (w.heap.push o)[b]?=w.heap[b]?
   rw[Array.getElem?_push_lt hb]; simp[hb],by show w.heap.size≤(w.heap.push o).size; simp,rfl,rfl,rfl⟩
theorem o1m {o:Oper} {a:Act} {w:World} {K:Act→World→Prop} {Q:Exit→Act→World→Prop} {v:Value} {ob:Go.Obj} (hr:(execOp a.eval o).run P w = .ok (.value v) (w.alloc ob)) (h:o.wp P a w K Q) :
 o.wp P a w (fun a' w'=>K a' w'∧Qw w w') Q:=by
 unfold Oper.wp at h ⊢
 rw[hr] at h ⊢
 simp only[Oper.upon] at h ⊢
 exact⟨h,Qw.alloc w ob⟩
theorem z2x {o:Oper} {a:Act} {w:World} {K:Act→World→Prop} {Q:Exit→Act→World→Prop} {s:Sem Value} (he:execOp a.eval o=(do pure (.value (← s)))) (hs:Qs P s) (h:o.wp P a w K Q) :
 o.wp P a w (fun a' w'=>K a' w'∧Qw w w') Q:=by
 unfold Oper.wp at h ⊢
 rw[he] at h ⊢
 rw[Sem.run_bind] at h ⊢
 cases hr:s.run P w with
 | ok v w1=>
   rw[hr] at h
   simp only[Result.andThen_ok,Sem.run_pure,Oper.upon] at h ⊢
   exact⟨h,hs w v w1 hr⟩
 | halt e w1=>
   rw[hr] at h
   cases e <;> first | exact h | (simp only[Result.andThen,Oper.upon] at h ⊢; exact h) | (simp only[Result.andThen,Oper.upon] at h)
end
end Go.Am
namespace Go.Am
section
variable {P:Program} {ops:Array Oper} {Cl:Nat→World→World→Prop} {L:Act→World→Prop}
def wpO (P:Program) (ops:Array Oper) (Cl:Nat→World→World→Prop) (L:Act→World→Prop):Nat→Array Bool→Act→World→Prop
 | 0,listed,a,w=>(∀i,i<ops.size→listed.getD i true=true)∧L a w
 | f+1,listed,a,w=>Region.ready .any ops listed≠[]∧∀i∈Region.ready .any ops listed,wpOp P ops Q0 i (fun a' w'=>Cl i w w'∧wpO P ops Cl L f (listed.setIfInBounds i true) a' w') a w
theorem w0b {listed:Array Bool} {i:Nat} (h:i∈Region.ready .any ops listed):i<ops.size:=by
 obtain⟨_,o,ho,_⟩:=mem_ready.1 h
 exact (Array.getElem?_eq_some_iff.1 ho).1
theorem s04 {Q:Exit→Act→World→Prop} (hL: ∀a w,L a w→Q .normal a w): ∀(f:Nat) (listed:Array Bool) (a:Act) (w:World),wpO P ops Cl L f listed a w→wpAny P .any ops Q f listed a w
 | 0,listed,a,w,h=>by
   refine⟨?_,hL _ _ h.2⟩
   rw[List.eq_nil_iff_forall_not_mem]
   intro i hi
   have h1:=h.1 i (w0b hi)
   rw[(mem_ready.1 hi).1] at h1
   cases h1
 | f+1,listed,a,w,h=>⟨fun h0=>absurd h0 h.1,fun i hi=>wpOp_mono (fun a' w' h'=>s04 hL f _ a' w' h'.2) (s1u (h.2 i hi))⟩
theorem d00 {i:Nat} {oi:Oper} {v:Value} {D:World→Prop} (hi:ops[i]?=some oi) (hsel:Region.noSelect ops=true) :
 ∀(f:Nat) (listed:Array Bool) (a:Act) (w:World),HeadInv .any ops ops.size listed→
  (∀j oj,ops[j]?=some oj→j≠i→listed.getD j true=false→(∀e∈oj.after,Region.binds .any e=true→e.on≠i)→oi.apart ops oj=true)→
  (∀(l2:Array Bool) (j:Nat),HeadInv .any ops ops.size l2→(∀t,listed.getD t false=true→l2.getD t false=true)→l2.getD i true=false→j∈Region.ready .any ops l2→j≠i→∀w1 w2,Cl j w1 w2→D w1→D w2)→
  i∈Region.ready .any ops listed→YieldsIf P ops D oi v a→D w→(∀w,Cl i w w)→wpO P ops Cl L f (listed.setIfInBounds i true) (a.put oi.dst v) w→wpO P ops Cl L (f+1) listed a w:=by
 intro f
 induction f with
 | zero=>
   intro listed a w inv hfree hsafe hr hy hw hci H
   refine⟨List.ne_nil_of_mem hr,fun j hj=>?_⟩
   rcases Nat.decEq j i with hji | hji
   ·have h1:=H.1 j (w0b hj)
    rw[getD_set_ne true (Ne.symm hji),(mem_ready.1 hj).1] at h1
    cases h1
   ·subst hji; exact hy.wpOp hi hw ⟨hci w,H⟩
 | succ f ih=>
   intro listed a w inv hfree hsafe hr hy hw hci H
   have hun:=(mem_ready.1 hr).1
   refine⟨List.ne_nil_of_mem hr,fun j hj=>?_⟩
   rcases Nat.decEq j i with hji | hji
   ·obtain⟨hjun,oj,hoj,hall⟩:=mem_ready.1 hj
    have hnot: ∀e∈oj.after,Region.binds .any e=true→e.on≠i:=fun e he hb heq=>by
     have h1:=hall e he hb
     rw[heq,getD_both hun] at h1
     cases h1
    have hDj:=hsafe listed j inv (fun _ h=>h) hun hj hji
    refine wpOp_mono (fun a' w' h3=>⟨h3.2.1,ih (listed.setIfInBounds j true) a' w' (inv.set hj (w0b hj)) (fun k ok hk hki hku hno=>?_) (fun l2 k hl2 hsub=>hsafe l2 k hl2 fun t ht=>hsub t (getD_set_true ht)) (ready_mono hr (Ne.symm hji)) h3.1 (hDj w w' h3.2.1 hw) hci ?_⟩)
     (wpOp_putIf hoj (hfree j oj hoj hji hjun hnot) (fun cs b=>Region.noSelect_spec hsel i oi cs b hi) (fun cs b=>Region.noSelect_spec hsel j oj cs b hoj) (fun _ _ _ h=>h) hy (H.2 j (ready_mono hj hji)))
    ·refine hfree k ok hk hki ?_ hno
     rcases Nat.decEq j k with hjk | hjk
     ·rwa [getD_set_ne true hjk] at hku
     ·subst hjk; exact hjun
    ·rw[Array.setIfInBounds_comm _ _ hji]
     exact h3.2.2
   ·subst hji; exact hy.wpOp hi hw ⟨hci w,H⟩
theorem o0u {listed:Array Bool} {i:Nat} (inv:HeadInv .any ops ops.size listed) (hi:listed.getD i true=false): ∀(f m:Nat) (D:List Nat),
 (∀j∈D,listed.getD j false=false∧j ∉ Region.ready .any ops listed)→∀j∈i0o ops i f m D,listed.getD j false=false∧j ∉ Region.ready .any ops listed
 | 0,_,D,h=>h
 | f+1,m,D,h=>by
   simp only[i0o]
   refine o0u inv hi f (m+1) _ ?_
   split
   ·rename_i o ho
    split
    ·rename_i hany
     intro j hj
     rcases List.mem_cons.1 hj with rfl | hj
     ·obtain⟨e,he,hb⟩:=Array.any_eq_true'.1 hany
      simp only[Bool.and_eq_true,Bool.or_eq_true,beq_iff_eq,List.contains_iff_mem] at hb
      have hun:listed.getD e.on false=false:=by
       rcases hb.2 with h1 | h1
       ·rw[h1]; exact getD_both hi
       ·exact (h _ h1).1
      constructor
      ·cases hl:listed.getD j false with
       | false=>rfl
       | true=>
         have:=inv.closed j o ho hl e he hb.1
         rw[hun] at this; cases this
      ·intro hr
       obtain⟨_,o2,ho2,hall⟩:=mem_ready.1 hr
       rw[ho] at ho2
       injection ho2 with ho2
       subst ho2
       have:=hall e he hb.1
       rw[hun] at this; cases this
     ·exact h j hj
    ·exact h
   ·exact h
theorem j04 {listed:Array Bool} {i j:Nat} (inv:HeadInv .any ops ops.size listed) (hi:listed.getD i true=false) (hj:j∈w1k ops i):j ∉ Region.ready .any ops listed:=
 (o0u inv hi ops.size 0 [] (fun _ h=>by cases h) j hj).2
end
section
variable {P:Program}
theorem w0q {a:Act} {d:Option Nat} {v:Value} {t:Nat} (h:d≠some t):(a.put d v).tmps.getD t undef=a.tmps.getD t undef:=by
 cases d with
 | none=>rfl
 | some d=>
   have hdt:d≠t:=fun e=>h (by rw[e])
   simp[Act.put,Array.getElem?_setIfInBounds_ne hdt]
theorem l06 {a:Act} {d:Nat} {v:Value} {b:Nat} (h:((a.put (some d) v).tmps.getD d undef).ownBlock=some b):v.ownBlock=some b:=by
 simp only[Act.put,Array.getD_eq_getD_getElem?,Array.getElem?_setIfInBounds,if_true] at h
 split at h
 ·simpa using h
 ·simp[undef,Value.ownBlock] at h
theorem g03 {o:Oper} {a:Act} {w:World} {K:Act→World→Prop} (h:o.wp P a w K Q0) :
 o.wp P a w (fun a' w'=>K a' w'∧∀t,o.dst≠some t→a'.tmps.getD t undef=a.tmps.getD t undef) Q0:=by
 unfold Oper.wp at *
 generalize (execOp a.eval o).run P w=r at *
 cases r with
 | ok n w'=>
   cases n <;> simp only[Oper.upon] at h ⊢
   case value=>exact⟨h,fun t ht=>w0q ht⟩
   case skip=>exact⟨h,fun t ht=>w0q ht⟩
   case defer=>exact⟨h,fun t ht=>w0q ht⟩
   case enter=>
    refine Calls.mono h fun e w'' he=>?_
    cases e with
    | returned=>exact⟨he,fun t ht=>w0q ht⟩
    | panicked=>exact he.elim
    | outgrown=>exact he
   case row=>exact Rows.mono h fun v w'' he=>⟨he,fun t ht=>w0q ht⟩
 | halt x w'=>
   cases x <;> simp only[Oper.upon] at h ⊢
   case panic=>exact h.elim
def Fsh (P:Program) (s:Sem Value):Prop:=∀w v w',s.run P w = .ok v w'→∀b,v.ownBlock=some b→w.heap.size≤b
theorem Fsh.bind' {α:Type} {s:Sem α} {f:α→Sem Value} (hs:Qs P s) (hf: ∀x,Fsh P (f x)):Fsh P (s >>= f):=by
 intro w y w' h b hb
 rw[Sem.run_bind] at h
 cases hr:s.run P w with
 | ok x w1=>rw[hr] at h; exact Nat.le_trans (hs w x w1 hr).size (hf x w1 y w' h b hb)
 | halt e w1=>rw[hr] at h; simp[Result.andThen] at h
theorem Fsh.none' {s:Sem Value} (h: ∀w x w',s.run P w≠.ok x w'):Fsh P s:=fun w x w' hh=>absurd hh (h w x w')
theorem Fsh.stuck' (m:String):Fsh P (stuck m:Sem Value):=Fsh.none' fun w x w'=>by simp[stuck]
theorem Fsh.row (e:TypeId) (cells:Array Value) (n m:Nat):Fsh P (do pure (Value.slice (some (← newRow e cells)) n m)):=by
 intro w v w' h b hb
 have:(do pure (Value.slice (some (← newRow e cells)) n m):Sem Value).run P w = .ok (.slice (some ⟨w.heap.size,0,none⟩) n m) (w.alloc (.cells cells e)):=by rfl
 rw[this] at h
 injection h with h1 h2
 subst h1
 simp only[Value.ownBlock,Option.some.injEq] at hb
 omega
theorem Fsh.buildSlice (t:TypeId) (n:Nat) (ps:Array (Nat×Value)):Fsh P (Instr.buildSlice t n ps):=by
 unfold Instr.buildSlice
 refine Fsh.bind' (Qs.und t) fun d=>?_
 cases d with
 | slice e=>
   refine Fsh.bind' (Qs.szOf e) fun sz=>?_
   dsimp only
   have hj: ∀z:Array Value,Fsh P (match Instr.fill (fun i=>some (i*sz,sz)) ((Array.range (n*sz)).map (fun x=>z[x % z.size]!)) ps.toList with
    | some cells=>(do pure (Value.slice (some (← newRow e cells)) n n):Sem Value)
    | _=>stuck "buildSlice: a part of the wrong size"):=fun z=>by
    split
    ·exact Fsh.row _ _ _ _
    ·exact Fsh.stuck' _
   by_cases c1:n*sz>2 ^ 24
   ·rw[if_pos c1]
    intro w x w' h
    rw[Sem.run_bind] at h
    simp[unsupported] at h
   ·rw[if_neg c1]
    by_cases c2:n*sz=0
    ·rw[if_pos c2]
     exact Fsh.bind' (Qs.pure' _) fun z=>hj z
    ·rw[if_neg c2]
     exact Fsh.bind' (Qs.zero e) fun _=>Fsh.bind' (Qs.pure' _) fun z=>hj z
 | _=>exact Fsh.stuck' _
theorem z2w {o:Oper} {a:Act} {w:World} {K:Act→World→Prop} {Q:Exit→Act→World→Prop} {s:Sem Value} (he:execOp a.eval o=(do pure (.value (← s)))) (hs:Fsh P s) (h:o.wp P a w K Q) :
 o.wp P a w (fun a' w'=>K a' w'∧∃v,a'=a.put o.dst v∧∀b,v.ownBlock=some b→w.heap.size≤b) Q:=by
 unfold Oper.wp at h ⊢
 rw[he] at h ⊢
 rw[Sem.run_bind] at h ⊢
 cases hr:s.run P w with
 | ok v w1=>
   rw[hr] at h
   simp only[Result.andThen_ok,Sem.run_pure,Oper.upon] at h ⊢
   exact⟨h,v,rfl,hs w v w1 hr⟩
 | halt e w1=>
   rw[hr] at h
   cases e <;> first | exact h | (simp only[Result.andThen,Oper.upon] at h ⊢; exact h) | (simp only[Result.andThen,Oper.upon] at h)
end
end Go.Am
namespace Go.Am
section
variable {P:Program} {w:World} {N:Nat→Prop} {lc:Loc} {tmps:Array Value} {ds:List Deferred} {F G:Fp} {σ σ1:St} {w0:World} {F0:Fp} {N0:Nat→Prop} {lc0:Loc} {n:Nat}
theorem p0u {ops:Array Oper} {Q:Exit→Act→World→Prop} {K:St→Prop}: ∀{rest:List Oper} {is:List Ins} {σ:St} {a:Act} {w:World},InsL P n ops rest is→y0y P is K σ→SR w0 F0 N0 lc0 n σ a w→
 (∀σ' a' w',K σ'→SR w0 F0 N0 lc0 n σ' a' w'→Q .normal a' w')→wpList P ops Q rest a w
 | [],is,σ,a,w,hl,h,hs,hq=>by
   cases is with
   | cons=>exact hl.elim
   | nil=>exact hq _ _ _ h hs
 | o :: os,is,σ,a,w,hl,h,hs,hq=>by
   cases is with
   | nil=>exact hl.elim
   | cons i is=>
     obtain⟨hi,hl⟩:=hl
     have hnext: ∀a' w',(∃σ',y0y P is K σ'∧SR w0 F0 N0 lc0 n σ' a' w')→wpList P ops Q os a' w':=fun a' w' ⟨σ',h1,h2⟩=>p0u hl h1 h2 hq
     refine wpList_step fun Kx hKx=>?_
     simp only[y0y,iwp] at h
     rcases hi.gd with⟨hg,hg'⟩ | ⟨j,want,t,hg,hg',hj⟩
     ·rw[hg'] at h
      simp only at h
      rw[if_pos (by simp[Region.wanted,hg])]
      exact q0q hi h hs fun a' w' hh=>hKx _ _ (hnext _ _ hh)
     ·rw[hg'] at h
      simp only at h
      split at h
      case h_3=>exact h.elim
      case h_2=>
       rename_i hlk
       have hy:yielded ops a.tmps j≠some want:=by
        obtain⟨h1,h2,N,lc,F,hB,⟨Ft,Fo,hle,ht,ho⟩,hFr⟩:=hs
        obtain⟨F1,F2,_,⟨gs,hv,hr⟩,_⟩:=x00 σ.tm Ft t _ hlk ht
        rw[Array.getD_eq_getD_getElem?] at hv
        simp only[yielded,hj,Option.bind_some]
        cases hx:a.tmps[t]? with
        | none=>simp
        | some v=>rw[hx] at hv; simp at hv; rw[hv]; simp
       rw[if_neg (by simp[Region.wanted,hg,hy])]
       refine hKx _ _ (hnext _ _ ⟨_,h,?_⟩)
       obtain⟨h1,h2,N,lc,F,hB,hh,hFr⟩:=hs
       refine⟨by rw[y0i]; exact h1,by rw[x06]; exact h2,N,lc,F,hB,?_,hFr⟩
       rw[hi.dst]
       obtain⟨tmps,ds⟩:=a
       exact y0j (ds:=ds) (G1:=fz) (by rw[z0g]; exact hh) ⟨[],rfl,rfl,rfl⟩ (fun k hk=>by simp only at h2; rw[h2]; exact (hi.lt k (by rw[hi.dst]; exact hk)).1)
      rename_i b hlk
      have hy:yielded ops a.tmps j=some b:=by
       obtain⟨h1,h2,N,lc,F,hB,⟨Ft,Fo,hle,ht,ho⟩,hFr⟩:=hs
       obtain⟨F1,F2,_,hr,_⟩:=x00 σ.tm Ft t _ hlk ht
       have hv:a.tmps.getD t undef = .bool b:=hr.1
       have hv':a.tmps[t]?=some (.bool b):=by
        rw[Array.getD_eq_getD_getElem?] at hv
        cases hx:a.tmps[t]? with
        | none=>rw[hx] at hv; simp[undef] at hv
        | some v=>rw[hx] at hv; simp at hv; rw[hv]
       simp only[yielded,hj,Option.bind_some,hv']
      by_cases hb:b=want
      ·rw[if_pos hb] at h
       rw[if_pos (by simp[Region.wanted,hg,hy,hb])]
       exact q0q hi h hs fun a' w' hh=>hKx _ _ (hnext _ _ hh)
      ·rw[if_neg hb] at h
       rw[if_neg (by simp[Region.wanted,hg,hy,hb])]
       refine hKx _ _ (hnext _ _ ⟨_,h,?_⟩)
       obtain⟨h1,h2,N,lc,F,hB,hh,hFr⟩:=hs
       refine⟨by rw[y0i]; exact h1,by rw[x06]; exact h2,N,lc,F,hB,?_,hFr⟩
       rw[hi.dst]
       obtain⟨tmps,ds⟩:=a
       exact y0j (ds:=ds) (G1:=fz) (by rw[z0g]; exact hh) ⟨[],rfl,rfl,rfl⟩ (fun k hk=>by simp only at h2; rw[h2]; exact (hi.lt k (by rw[hi.dst]; exact hk)).1)
def exOf:Exit→Option Ex
 | .normal=>some .n
 | .exit i=>some (.x i)
 | .ret=>some .r
 | _=>none
def Post (w0:World) (F0:Fp) (N0:Nat→Prop) (lc0:Loc) (n:Nat) (Q:Ex→St→Prop):Exit→Act→World→Prop:=
 fun e a w=>∃x σ,exOf e=some x∧Q x σ∧SR w0 F0 N0 lc0 n σ a w
theorem b05 {c:Code} {Q:Exit→Act→World→Prop} (J:Nat→Act→World→Prop) (round: ∀n a w,J n a w→c.wp P (Exit.then (fun a' w'=>∃m,m<n∧J m a' w') Q) a w) {n:Nat} {a:Act} {w:World} (h:J n a w) :
 (Code.loop c).wp P Q a w:=by
 intro b k cs
 have key: ∀n a w,J n a w→∃e a' w',Q e a' w'∧Arrives P (lone (b.at a (.code c :: .inLoop c :: k)) cs w) b k cs e a' w':=by
  intro n
  induction n using Nat.strongRecOn with
  | _ n ih=>
    intro a w h
    obtain⟨e,a1,w1,hq,harr⟩:=round n a w h b (.inLoop c :: k) cs
    cases e with
    | normal=>
      obtain⟨m,hm,hJ⟩:=hq
      obtain⟨e2,a2,w2,hq2,harr2⟩:=ih m hm a1 w1 hJ
      exact⟨e2,a2,w2,hq2,.of_steps (Steps.trans harr (.one step_inLoop)) harr2⟩
    | exit id=>exact⟨_,a1,w1,hq,.pass (x:= .inLoop c) rfl (fun _ _=> .inl (by simp)) harr⟩
    | goto l=>exact⟨_,a1,w1,hq,.pass (x:= .inLoop c) rfl (fun _ _=> .inl (by simp)) harr⟩
    | ret=>exact⟨_,a1,w1,hq,.pass (x:= .inLoop c) rfl (fun _ _=> .inl (by simp)) harr⟩
    | panic ch=>exact⟨_,a1,w1,hq,.pass (x:= .inLoop c) rfl (fun _ _=> .inl (by simp)) harr⟩
    | outgrown=>exact⟨_,a1,w1,hq,.pass (x:= .inLoop c) rfl (fun _ _=> .inl (by simp)) harr⟩
 obtain⟨e,a',w',hq,harr⟩:=key n a w h
 exact⟨e,a',w',hq,.of_steps (.one step_loop) harr⟩
theorem q0f {a:Act} {N:Nat→Prop} {lc:Loc} {F:Fp} {w w1:World} (hdef:a.defers=[]) (hn:a.tmps.size=n) (hB:Base w N F) (hh:Hold w N lc σ a.tmps F fz) (hFr:Fr w0 F0 N0 lc0 w F N lc) (hw:Qw w w1):SR w0 F0 N0 lc0 n σ a w1:=
 ⟨hdef,hn,N,lc,F,⟨hB.one,fun b hb=>Nat.lt_of_lt_of_le (hB.lt b hb) hw.size,fun b hb=>⟨(hB.nb b hb).1,Nat.lt_of_lt_of_le (hB.nb b hb).2 hw.size⟩⟩,u04 hw.blk hB hh,
   hFr.trans ⟨hw.os,hw.tape,hw.out,hw.size,fun b hb _=>hw.blk b hb,fun _ h=> .inl h,fun _ h=>h,fun _ h=> .inl h,fun _ _=>rfl⟩⟩
theorem i00: ∀(qs:List Nat) (l:Array Bool),(k0t qs l).size=l.size
 | [],_=>rfl
 | i :: qs,l=>by simp only[k0t]; rw[i00 qs]; simp
theorem r0i: ∀(qs:List Nat) (l:Array Bool) (j:Nat) (d:Bool),j<l.size→(k0t qs l).getD j d=if j∈qs then true else l.getD j d
 | [],l,j,d,_=>by simp[k0t]
 | i :: qs,l,j,d,hj=>by
   simp only[k0t]
   rw[r0i qs _ j d (by simpa using hj)]
   by_cases hq:j∈qs
   ·simp[hq]
   ·by_cases hij:i=j
    ·subst hij
     simp[hq,Array.getD_eq_getD_getElem?,hj]
    ·simp only[hq,if_false,List.mem_cons,Ne.symm hij,or_self]
     exact getD_set_ne d hij
theorem f10 {l l':Array Bool} (hs:l.size=l'.size) (h: ∀j,j<l.size→l.getD j true=l'.getD j true):l=l':=by
 apply Array.ext hs
 intro i h1 h2
 have:=h i h1
 simpa [Array.getD_eq_getD_getElem?,h1,h2] using this
theorem f0a {ops:Array Oper} {m:Nat}: ∀{qs:List Nat} {l:Array Bool},j08 ops m qs l=true→∀q∈qs,q<m
 | [],_,_,q,hq=>by cases hq
 | i :: qs,l,h,q,hq=>by
   simp only[j08,Bool.and_eq_true,decide_eq_true_eq] at h
   rcases List.mem_cons.1 hq with rfl | hq
   ·exact h.1.1.1.1
   ·exact f0a h.2 q hq
theorem u13 {P:Program} {σ0:St} {dl:List Nat} {is:List Ins}: ∀{items:List GI},(∀g∈items,g.Ok P σ0 dl is)→items.map GI.d=dsOf (y0g is (items.map GI.idx))
 | [],_=>rfl
 | g :: items,h=>by
   have h1:=(h g (List.mem_cons_self ..)).ins
   simp only[List.map_cons,y0g,h1,dsOf]
   rw[u13 fun g' hg'=>h g' (List.mem_cons_of_mem _ hg')]
theorem m0x {is:List Ins} {i:Nat} {x:Ins}: ∀{gs:List Nat},i∈gs→is[i]?=some x→x∈y0g is gs
 | j :: gs,h,hx=>by
   simp only[y0g]
   rcases List.mem_cons.1 h with rfl | h
   ·rw[hx]; exact List.mem_cons_self ..
   ·split
    ·exact List.mem_cons_of_mem _ (m0x h hx)
    ·exact m0x h hx
theorem h08 {d:Nat}: ∀{l:List Ins} {x:Ins},x∈l→x.d=some d→d∈dsOf l
 | y :: l,x,h,hd=>by
   simp only[dsOf]
   rcases List.mem_cons.1 h with rfl | h
   ·rw[hd]; exact List.mem_cons_self ..
   ·split
    ·exact List.mem_cons_of_mem _ (h08 h hd)
    ·exact h08 h hd
theorem l0c {K:St→Prop}: ∀(m:Nat) (is:List Ins),y0y P is K=y0y P (is.take m) (y0y P (is.drop m) K)
 | 0,is=>rfl
 | m+1,[]=>rfl
 | m+1,x :: is=>by
   funext σ
   simp only[List.take_succ_cons,List.drop_succ_cons,y0y]
   rw[← l0c m is]
theorem z1g {ops:Array Oper} {C C':World→Prop} {m:Nat} {L:Array Bool→Act→World→Prop} (hC: ∀w,C w→C' w): ∀(f:Nat) (listed:Array Bool) (a:Act) (w:World),wpG P ops C m L f listed a w→wpG P ops C' m L f listed a w
 | 0,_,_,_,h=>h
 | f+1,listed,a,w,h=>⟨h.1,fun i hi=>⟨(h.2 i hi).1,wpOp_mono (fun a' w' k=>⟨hC _ k.1,z1g hC f _ _ _ k.2⟩) (h.2 i hi).2⟩⟩
theorem s1s {ops:Array Oper} {C:World→Prop} {m k f:Nat} {L:Array Bool→Act→World→Prop} {listed:Array Bool} {a:Act} {w:World} (hr:Region.ready .any ops listed=[k]) (hk:k<m)
 (h:wpOp P ops Q0 k (fun a' w'=>C w'∧wpG P ops C m L f (listed.setIfInBounds k true) a' w') a w):wpG P ops C m L (f+1) listed a w:=
 ⟨by rw[hr]; simp,fun i hi=>by
   rw[hr] at hi
   have:i=k:=by simpa using hi
   subst this
   exact⟨hk,h⟩⟩
theorem i06 {ops:Array Oper} {o:Oper} {ins:Ins} {a:Act} {w:World} {K:St→Prop} (hi:InsK P n ops o ins) (ha:s03 ins.i=true) (h:iwp0 P ins.d ins.i K σ) (hs:SR w0 F0 N0 lc0 n σ a w) :
 o.wp P a w (fun a' w'=>(∃σ',K σ'∧SR w0 F0 N0 lc0 n σ' a' w')∧Qw w w') Q0:=by
 have hd:=hi.dst
 have hlt:=hi.lt
 rcases hi.op with hv | hm | hc
 ·rw[v0e (q0p hv)] at h
  cases hr:runV ins.i σ with
  | none=>rw[hr,t0w hv] at h; exact h.elim
  | some x=>
    obtain⟨v,σ1⟩:=x
    rw[hr] at h
    obtain⟨h1,h2,N,lc,F,hB,hh,hFr⟩:=hs
    obtain⟨tmps,ds⟩:=a
    simp only at h1 h2 hh
    subst h1
    obtain⟨g,G1,k1,k2,k3⟩:=t1s (ds:=[]) hv hr hh
    refine u1q k1 (.inl rfl) ⟨⟨setT σ1 ins.d v,h,?_,?_,N,lc,F,hB,?_,hFr⟩,Qw.refl w⟩
    ·rw[y0i]
    ·rw[x06]; exact h2
    ·rw[hd]
     exact y0j k3 k2 (fun k hk=>by rw[h2]; exact (hlt k (by rw[hd]; exact hk)).1)
 ·have h0:=q0q (Q:=Q0) (next:=fun a' w'=>∃σ',K σ'∧SR w0 F0 N0 lc0 n σ' a' w') hi h hs fun _ _ h=>h
  obtain⟨d,gd,i⟩:=ins
  obtain⟨dst,op,ty,pos,after,guard⟩:=o
  simp only at hm ha h0
  cases hm with
  | alc hti hz hl hzr=>exact o1m (d04 (ds:=a.defers) rfl hti hz) h0
  | mks hl hc ht hti hz hs' hby hby2 hzl he hzr=>
    obtain⟨_,_,N,lc,F,hB,hh,_⟩:=hs
    rw[v0e (t03 (.mks hl hc ht hti hz hs' hby hby2 hzl he hzr)),x0n (.mks hl hc ht hti hz hs' hby hby2 hzl he hzr)] at h
    obtain⟨v,ob,hr⟩:=m13 (o:={ dst,op:= .makeSlice _ _ _,type:=ty,pos,after,guard }) (ds:=a.defers) (d:=d) rfl hl hc ht hti hz hs' hby hby2 he (by
     cases hm:runM d (.mks _ _ _ _ _ _) σ with
     | none=>rw[hm] at h; exact h.elim
     | some σ1=>exact⟨σ1,rfl⟩) hh
    exact o1m hr h0
  | _=>first | (simp[s03,s09] at ha; done) | exact z2x rfl (Qs.build _ _) h0 | exact z2x rfl (Qs.buildSlice _ _ _) h0
 ·obtain⟨d,gd,i⟩:=ins
  obtain⟨dst,op,ty,pos,after,guard⟩:=o
  simp only at hc ha h hd
  subst hd
  cases hc with
  | call h1 h2 h3 h4 h5 h6=>exact r01 (o:={ dst,op:= .call _,type:=ty,pos,after,guard }) rfl h1 rfl h2 h3 h4 h5 h6 (fun k hk=>(hlt k hk).1) h hs
  | callr=>simp[s03,s09] at ha
  | callzr=>simp[s03,s09] at ha
  | callf=>simp[s03,s09] at ha
  | callrf=>simp[s03,s09] at ha
  | callro=>simp[s03,s09] at ha
  | callo=>simp[s03,s09] at ha
  | callv=>simp[s03,s09] at ha
  | calln=>simp[s03,s09] at ha
  | callz h1 h2 h3 h4 h5 h6=>exact g0i (o:={ dst,op:= .call _,type:=ty,pos,after,guard }) rfl h1 h2 h3 h4 h5 h6 (fun k hk=>(hlt k hk).1) h hs
theorem v0w {op:Op} {i:I} {K:St→Prop} {d:Option Nat} (ho:IsV P op i∨IsM P op i∨IsC P op i) (hp:s09 i=true) (h:iwp0 P d i K σ):IsV P op i∧∃v σ1,runV i σ=some (v,σ1)∧K (setT σ1 d v):=by
 rcases ho with hv | hm | hc
 ·refine⟨hv,?_⟩
  rw[v0e (q0p hv)] at h
  cases hr:runV i σ with
  | none=>rw[hr,t0w hv] at h; exact h.elim
  | some x=>
    obtain⟨v,σ1⟩:=x
    rw[hr] at h
    exact⟨v,σ1,rfl,h⟩
 ·cases hm <;> simp[s09] at hp
 ·cases hc <;> simp[s09] at hp
theorem a09 {ops:Array Oper} {is:List Ins} {m:Nat} {K:St→Prop} {L:Array Bool→Act→World→Prop} (hil:InsL P n ops ops.toList is) (hsel:Region.noSelect ops=true)
 (hs:Region.sinkB .any ops m=true) (hc:Region.chainB .any ops m=true) (hm:m<ops.size) (hL: ∀listed a w,L listed a w→∀j∈Region.ready .any ops listed,m≤j) :
 ∀(c k:Nat) (listed:Array Bool) (a:Act) (σ:St) (w:World),k+c=m→mixB ops is m c k listed=true→HeadInv .any ops m listed→y0y P ((is.drop k).take c) K σ→SR w0 F0 N0 lc0 n σ a w→
  (∀listed' a' w' σ',Region.seqB .any ops (ops.size - m) m listed'=true→K σ'→SR w0 F0 N0 lc0 n σ' a' w'→L listed' a' w')→wpG P ops (Qw w) m L c listed a w
 | 0,k,listed,a,σ,w,hk,hb,inv,h,hsr,hfin=>hfin _ _ _ _ hb h hsr
 | c+1,k,listed,a,σ,w,hk,hb,inv,h,hsr,hfin=>by
   simp only[mixB,Bool.and_eq_true] at hb
   obtain⟨⟨hg,hx⟩,hb⟩:=hb
   cases hoi:ops[k]? with
   | none=>rw[hoi] at hg; simp at hg
   | some o=>
     rw[hoi] at hg
     simp only[Option.map_some,Option.getD_some,Option.isNone_iff_eq_none] at hg
     obtain⟨x,hxi,hi⟩:=n0j hil (i:=k) (o:=o) (by simpa using hoi)
     rw[hxi] at hx
     simp only[Option.map_some,Option.getD_some,Bool.or_eq_true,Bool.and_eq_true,decide_eq_true_eq] at hx
     have hlt:k<is.length:=(List.getElem?_eq_some_iff.1 hxi).1
     have hxe:is[k]=x:=(List.getElem?_eq_some_iff.1 hxi).2
     rw[List.drop_eq_getElem_cons hlt,List.take_succ_cons,hxe] at h
     have hgx:x.gd=none:=by
      rcases hi.gd with h | ⟨j,want,t,h,_⟩
      ·exact h.2
      ·rw[hg] at h; cases h
     simp only[y0y,iwp,hgx] at h
     have hkm:k<m:=by omega
     rcases hx with⟨⟨hp,hrd⟩,hfr⟩ | ⟨hal,hrd⟩
     ·rcases hp with hp | hp
      rotate_left
      ·have h0:=q0q (Q:=Q0) (next:=fun a' w'=>∃σ',y0y P (List.take c (List.drop (k+1) is)) K σ'∧SR w0 F0 N0 lc0 n σ' a' w') hi h hsr fun _ _ h=>h
       obtain⟨d,gd,i⟩:=x
       obtain⟨dst,op,ty,pos,after,guard⟩:=o
       simp only at hp h0
       have hex: ∀w2,(execOp a.eval { dst,op,type:=ty,pos,after,guard }).run P w2 = .ok (.value (a.eval (match op with | .assign x0=>x0 | _=> .const undef))) w2:=by
        intro w2
        rcases hi.op with hv | hm | hc
        ·cases hv <;> simp[asnI] at hp
        ·cases hm <;> first | (simp[asnI] at hp; done) | simp[execOp]
        ·cases hc <;> simp[asnI] at hp
       have hr:k∈Region.ready .any ops listed:=by simpa using hrd
       have hwt:Region.wanted { dst,op,type:=ty,pos,after,guard } (yielded ops a.tmps)=true:=by
        have hg':guard=none:=hg
        rw[hg']; simp[Region.wanted]
       unfold Oper.wp at h0
       rw[hex w,Oper.upon] at h0
       obtain⟨σ',hK,hsr'⟩:=h0
       refine k03 hoi hsel hs hc hm hkm hL _ _ _ _ inv (Region.free_spec hoi hfr) hr (.inl ⟨hwt,fun w2 _=>hex w2⟩) (Qw.refl w) ?_
       exact a09 hil hsel hs hc hm hL c (k+1) _ _ _ w (by omega) hb (inv.set hr hkm) hK hsr' hfin
      obtain⟨hv,v,σ1,hrun,hK⟩:=v0w hi.op hp h
      obtain⟨h1,h2,N,lc,F,hB,hh,hFr⟩:=hsr
      obtain⟨tmps,ds⟩:=a
      simp only at h1 h2 hh
      subst h1
      obtain⟨g,G1,k1,k2,k3⟩:=o02 (ds:=[]) hv hrun hh
      have hy:YieldsIf P ops (Qw w) o g ⟨tmps,[]⟩:= .inl ⟨by simp[Region.wanted,hg],fun w2 hw2=>k1 w2 (.inr hw2.blk)⟩
      have hr:k∈Region.ready .any ops listed:=by simpa using hrd
      refine k03 hoi hsel hs hc hm hkm hL _ _ _ _ inv (Region.free_spec hoi hfr) hr hy (Qw.refl w) ?_
      refine a09 hil hsel hs hc hm hL c (k+1) _ _ _ w (by omega) hb (inv.set hr hkm) hK ⟨by rw[y0i],by rw[x06]; exact h2,N,lc,F,hB,?_,hFr⟩ hfin
      rw[← hi.dst]
      exact y0j k3 k2 fun t ht=>by rw[h2]; exact (hi.lt t ht).1
     ·have hr:k∈Region.ready .any ops listed:=by rw[hrd]; simp
      refine s1s hrd hkm ?_
      unfold wpOp
      simp only[hoi,show Region.wanted o (yielded ops a.tmps)=true by simp[Region.wanted,hg],if_true]
      refine .inl (Oper.wp_mono (fun a' w' ⟨⟨σ',hK,hsr'⟩,hq⟩=>⟨hq,?_⟩) (i06 hi hal h hsr))
      exact z1g (fun w2 hw2=>hq.trans hw2) _ _ _ _ (a09 hil hsel hs hc hm hL c (k+1) _ _ _ w' (by omega) hb (inv.set hr hkm) hK hsr' hfin)
theorem y1n {id m:Nat} {ops:Array Oper} {is:List Ins} {Qx:Exit→Act→World→Prop} {K:St→Prop} {a:Act} {w:World} (hmo:P.follows .mixedOrders=true) (hil:InsL P n ops ops.toList is) (hb:j0d ops is m=true)
 (h:y0y P is K σ) (hs:SR w0 F0 N0 lc0 n σ a w) (hfin: ∀σ' a' w',K σ'→SR w0 F0 N0 lc0 n σ' a' w'→Qx .normal a' w'):(Code.region id ops true).wp P Qx a w:=by
 simp only[j0d,Bool.and_eq_true,decide_eq_true_eq] at hb
 obtain⟨⟨⟨⟨hsel,hm⟩,hsk⟩,hch⟩,hmix⟩:=hb
 have hsr:SR w0 F0 N0 lc0 n σ a { w with drawn:=w.drawn+1 }:=by
  obtain⟨h1,h2,N,lc,F,hB,hh,hFr⟩:=hs
  exact q0f h1 h2 hB hh hFr ⟨fun _ _=>rfl,Nat.le_refl _,rfl,rfl,rfl⟩
 obtain⟨hl1,hl2⟩:=r0m m hil
 have hsz:ops.toList.length=ops.size:=by simp
 have inv0:HeadInv .any ops m (Array.replicate ops.size false):=
  ⟨by simp,fun j oj _ hl=>(by rw[getD_replicate_false] at hl; cases hl),fun t _ ht=>getD_in (by simpa using ht) (getD_replicate_false _ _)⟩
 let L:Array Bool→Act→World→Prop:=fun listed a' w'=>Region.seqB .any ops (ops.size - m) m listed=true∧∃σ',y0y P (is.drop m) K σ'∧SR w0 F0 N0 lc0 n σ' a' w'
 refine wp_region_any hmo ?_
 have hsplit:y0y P ((is.drop 0).take m) (y0y P (is.drop m) K) σ:=by
  rw[List.drop_zero]
  rw[← l0c m is]; exact h
 have hmain:=a09 (L:=L) hil hsel hsk hch hm (fun listed a w hL=>seqB_ready hL.1) m 0 _ a σ _ (by omega) hmix inv0 hsplit hsr fun listed' a' w' σ' k1 k2 k3=>⟨k1,σ',k2,k3⟩
 have:=o09 (Q:=Qx) (g:=ops.size - m) (fun listed a' w' hL=>by
  obtain⟨hq,σ',k2,k3⟩:=hL
  have hd:(ops.toList.drop m).length=ops.size - m:=by simp
  rw[← hd]
  exact wpAny_of_seq (ops.toList.drop m) m listed a' w' (fun j=>by simp) (by rw[hd]; exact hq) (p0u hl2 k2 k3 hfin)) _ _ _ _ hmain
 rwa [show m+(ops.size - m)=ops.size by omega] at this
theorem b06 {ops:Array Oper}: ∀{l:List Oper} {is:List Ins} {i:Nat} {x:Ins},InsL P n ops l is→is[i]?=some x→∃o,l[i]?=some o∧InsK P n ops o x
 | [],[],_,_,_,h=>by simp at h
 | _ :: _,[],_,_,h,_=>h.elim
 | [],_ :: _,_,_,h,_=>h.elim
 | o' :: l,y :: is,0,x,h,ho=>by
   simp only[List.getElem?_cons_zero,Option.some.injEq] at ho
   subst ho
   exact⟨o',rfl,h.1⟩
 | o' :: l,y :: is,i+1,x,h,ho=>by
   obtain⟨z,h1,h2⟩:=b06 h.2 (by simpa using ho)
   exact⟨z,by simpa using h1,h2⟩
theorem n0y {ops:Array Oper} {is:List Ins} {i:Nat} {x:Ins} (h:InsL P n ops ops.toList is) (hx:is[i]?=some x): ∃o,ops[i]?=some o∧InsK P n ops o x:=by
 obtain⟨o,h1,h2⟩:=b06 h hx
 exact⟨o,by simpa using h1,h2⟩
theorem f0h {ops:Array Oper} {o:Oper} {ins:Ins} {a:Act} {w:World} {K:St→Prop} (hi:InsK P n ops o ins) (h:iwp P ins K σ) (hs:SR w0 F0 N0 lc0 n σ a w) :
 (Region.wanted o (yielded ops a.tmps)=true∧iwp0 P ins.d ins.i K σ)∨(Region.wanted o (yielded ops a.tmps)=false∧∃σ',K σ'∧SR w0 F0 N0 lc0 n σ' (a.put o.dst undef) w):=by
 have hskip:K (setT σ ins.d (.tup []))→∃σ',K σ'∧SR w0 F0 N0 lc0 n σ' (a.put o.dst undef) w:=fun h=>by
  refine⟨_,h,?_⟩
  obtain⟨h1,h2,N,lc,F,hB,hh,hFr⟩:=hs
  refine⟨by rw[y0i]; exact h1,by rw[x06]; exact h2,N,lc,F,hB,?_,hFr⟩
  rw[hi.dst]
  obtain⟨tmps,ds⟩:=a
  exact y0j (ds:=ds) (G1:=fz) (by rw[z0g]; exact hh) ⟨[],rfl,rfl,rfl⟩ (fun k hk=>by simp only at h2; rw[h2]; exact (hi.lt k (by rw[hi.dst]; exact hk)).1)
 simp only[iwp] at h
 rcases hi.gd with⟨hg,hg'⟩ | ⟨j,want,t,hg,hg',hj⟩
 ·rw[hg'] at h
  exact .inl ⟨by simp[Region.wanted,hg],h⟩
 ·rw[hg'] at h
  simp only at h
  split at h
  case h_3=>exact h.elim
  case h_2=>
   rename_i hlk
   have hy:yielded ops a.tmps j≠some want:=by
    obtain⟨h1,h2,N,lc,F,hB,⟨Ft,Fo,hle,ht,ho⟩,hFr⟩:=hs
    obtain⟨F1,F2,_,⟨gs,hv,hr⟩,_⟩:=x00 σ.tm Ft t _ hlk ht
    rw[Array.getD_eq_getD_getElem?] at hv
    simp only[yielded,hj,Option.bind_some]
    cases hx:a.tmps[t]? with
    | none=>simp
    | some v=>rw[hx] at hv; simp at hv; rw[hv]; simp
   exact .inr ⟨by simp[Region.wanted,hg,hy],hskip h⟩
  rename_i b hlk
  have hy:yielded ops a.tmps j=some b:=by
   obtain⟨h1,h2,N,lc,F,hB,⟨Ft,Fo,hle,ht,ho⟩,hFr⟩:=hs
   obtain⟨F1,F2,_,hr,_⟩:=x00 σ.tm Ft t _ hlk ht
   have hv:a.tmps.getD t undef = .bool b:=hr.1
   have hv':a.tmps[t]?=some (.bool b):=by
    rw[Array.getD_eq_getD_getElem?] at hv
    cases hx:a.tmps[t]? with
    | none=>rw[hx] at hv; simp[undef] at hv
    | some v=>rw[hx] at hv; simp at hv; rw[hv]
   simp only[yielded,hj,Option.bind_some,hv']
  by_cases hb:b=want
  ·rw[if_pos hb] at h
   exact .inl ⟨by simp[Region.wanted,hg,hy,hb],h⟩
  ·rw[if_neg hb] at h
   exact .inr ⟨by simp[Region.wanted,hg,hy,hb],hskip h⟩
theorem s1y {wR w w':World} {r:Option Nat} (hq:Qw wR w) (hg:w.grownBy w' r) (hr: ∀b,r=some b→wR.heap.size≤b):Qw wR w':=
 ⟨fun x hx=>(hg.block x (Nat.lt_of_lt_of_le hx hq.size) fun he=>by have:=hr x he.symm; omega).trans (hq.blk x hx),Nat.le_trans hq.size hg.size,hg.os.trans hq.os,hg.tape.trans hq.tape,hg.output.trans hq.out⟩
theorem o1t {ops:Array Oper} {o:Oper} {ins:Ins} {a:Act} {w wR:World} {K:St→Prop} {t e by_ s:Nat} {fzm:Bool} {x:X} (hi:InsK P n ops o ins) (happ:ins.i = .app t e by_ fzm (.t s) x) (h:iwp0 P ins.d ins.i K σ)
 (hs:SR w0 F0 N0 lc0 n σ a w) (hq:Qw wR w) (hf: ∀b,(a.tmps.getD s undef).ownBlock=some b→wR.heap.size≤b) :
 o.wp P a w (fun a' w'=>(∃σ',K σ'∧SR w0 F0 N0 lc0 n σ' a' w')∧Qw wR w'∧∃v,a'=a.put o.dst v∧∀b,v.ownBlock=some b→wR.heap.size≤b) Q0:=by
 have h0:=q0q (Q:=Q0) (next:=fun a' w'=>∃σ',K σ'∧SR w0 F0 N0 lc0 n σ' a' w') hi h hs fun _ _ h=>h
 obtain⟨d,gd,i⟩:=ins
 obtain⟨dst,op,ty,pos,after,guard⟩:=o
 have hop:=hi.op
 simp only at happ hop h
 subst happ
 rcases hop with hv | hm | hc
 ·cases hv
 ·rw[v0e (t03 hm),x0n hm] at h
  cases hr:runM d (.app t e by_ fzm (.t s) x) σ with
  | none=>rw[hr] at h; exact h.elim
  | some σ1=>
    obtain⟨h1,h2,N,lc,F,hB,hh,hFr⟩:=hs
    obtain⟨tmps,ds⟩:=a
    simp only at h1 h2 hh hf
    subst h1
    have hkeep: ∃v w',(execOp (Act.mk tmps []).eval { dst,op,type:=ty,pos,after,guard }).run P w = .ok (.value v) w'∧w.grownBy w' (tmps.getD s undef).ownBlock∧(∀b,v.ownBlock=some b→(tmps.getD s undef).ownBlock=some b∨w.heap.size≤b):=by
     cases hm with
     | @app t' _ _ _ _ s1 x1 _ _ i zv hs0 hx0 ht hi' hz hsz hby hby2 hzs he=>
       have:=x1u (P:=P) (ds:=[]) (o:={ dst,op:= .call { callee:= .builtin .append,args:=#[s1,x1],argTypes:=#[t',t'] },type:=ty,pos,after,guard }) rfl hs0 hx0 ht hi' hz hsz hby hby2 hzs he hr hB hh
       cases s1 with
       | tmp m=>
         have:s=m:=hs0
         subst this
         simpa [Act.eval] using this
       | _=>exact hs0.elim
    obtain⟨v,w',hex,hg,hv⟩:=hkeep
    unfold Oper.wp at h0 ⊢
    rw[hex] at h0 ⊢
    simp only[Oper.upon] at h0 ⊢
    refine⟨h0,s1y hq hg hf,v,rfl,fun b hb=>?_⟩
    rcases hv b hb with h | h
    ·exact hf b h
    ·exact Nat.le_trans hq.size h
 ·cases hc
def FrInv (wR:World) (fr:List Nat) (a:Act):Prop:=∀t∈fr,∀b,(a.tmps.getD t undef).ownBlock=some b→wR.heap.size≤b
def ClR (lvs:List Nat) (wR:World):Nat→World→World→Prop:=fun j w1 w2=>(lvs.getD j 0=2→Qw w1 w2)∧(lvs.getD j 0≠0→Qw wR w1→Qw wR w2)
theorem ClR.refl {lvs:List Nat} {wR:World} {j:Nat} (w:World):ClR lvs wR j w w:=⟨fun _=>Qw.refl w,fun _ h=>h⟩
theorem ClR.ofQ {lvs:List Nat} {wR:World} {j:Nat} {w w':World} (h:Qw w w'):ClR lvs wR j w w':=⟨fun _=>h,fun _ h'=>h'.trans h⟩
theorem FrInv.less {wR:World} {fr:List Nat} {a a':Act} {d:Option Nat} (h:FrInv wR fr a) (hk: ∀t,d≠some t→a'.tmps.getD t undef=a.tmps.getD t undef):FrInv wR (c0b fr d) a':=by
 intro t ht b hb
 cases d with
 | none=>rw[hk t (by simp)] at hb; exact h t ht b hb
 | some d=>
   simp only[c0b,List.mem_filter,bne_iff_ne,ne_eq] at ht
   rw[hk t (by simp; exact fun e=>ht.2 e.symm)] at hb
   exact h t ht.1 b hb
theorem FrInv.cons {wR:World} {fr:List Nat} {a':Act} {d:Nat} (h:FrInv wR fr a') (hd: ∀b,(a'.tmps.getD d undef).ownBlock=some b→wR.heap.size≤b):FrInv wR (d :: fr) a':=by
 intro t ht
 rcases List.mem_cons.1 ht with rfl | ht
 ·exact hd
 ·exact h t ht
theorem u1d {ops:Array Oper} {lvs:List Nat} {s:OS} {k:Nat} {wR w:World} (h:memB ops lvs s k=true) (hsz:s.listed.size=ops.size) (l2:Array Bool) (j:Nat) (inv:HeadInv .any ops ops.size l2) (hsub: ∀t,s.listed.getD t false=true→l2.getD t false=true)
 (hun:l2.getD k true=false) (hj:j∈Region.ready .any ops l2) (hjk:j≠k) (hw:s.st=true→w=wR): ∀w1 w2,ClR lvs wR j w1 w2→Qw w w1→Qw w w2:=by
 intro w1 w2 hc hq
 simp only[memB,List.all_eq_true,List.mem_range,Bool.or_eq_true,beq_iff_eq,List.contains_iff_mem] at h
 have hlt:=w0b hj
 rcases h j hlt with ((h | h) | h) | h
 ·exact absurd h hjk
 ·have h1:s.listed.getD j false=true:=by
   have h':j<s.listed.size:=by rw[hsz]; exact hlt
   simpa [h'] using h
  have h2:=hsub j h1
  have h3:=getD_both (mem_ready.1 hj).1
  rw[h2] at h3; cases h3
 ·split at h
  ·rename_i hst
   have:=hw hst
   subst this
   exact hc.2 (by simpa using h) hq
  ·exact hq.trans (hc.1 (by simpa using h))
 ·exact absurd hj (j04 inv hun h)
structure OInv (wR:World) (s:OS) (a:Act) (w:World):Prop where
 st:s.st=true→w=wR
 cl:s.cl=true→Qw wR w∧FrInv wR s.fr a
theorem a0f {ops:Array Oper} {is:List Ins} {wR:World} {Kn:St→Prop} {L:Act→World→Prop} {lvs:List Nat} {f k:Nat} {x:Ins} {s:OS} {a:Act} {w:World} {Cl:Nat→World→World→Prop} (hrf: ∀w,Cl k w w) (hsb: ∀j w1 w2,Cl j w1 w2→ClR lvs wR j w1 w2) (hil:InsL P n ops ops.toList is) (hsel:Region.noSelect ops=true)
 (hxi:is[k]?=some x) (hc:l00 ops lvs s k x=true) (inv:HeadInv .any ops ops.size s.listed) (h:iwp P x Kn σ) (hsr:SR w0 F0 N0 lc0 n σ a w) (hO:OInv wR s a w)
 (hrec: ∀(σ':St) (v:Value),Kn σ'→SR w0 F0 N0 lc0 n σ' (a.put x.d v) w→HeadInv .any ops ops.size (s.listed.setIfInBounds k true)→OInv wR (p0s s k x) (a.put x.d v) w→wpO P ops Cl L f (s.listed.setIfInBounds k true) (a.put x.d v) w) :
 wpO P ops Cl L (f+1) s.listed a w:=by
 obtain⟨o,hoi,hi⟩:=n0y hil hxi
 have hcase:=f0h hi h hsr
 simp only[l00,Bool.and_eq_true,Bool.or_eq_true,List.contains_iff_mem] at hc
 obtain⟨⟨hr,hkind⟩,hfree⟩:=hc
 have hnext: ∀(v:Value) (D:World→Prop),(∃σ',Kn σ'∧SR w0 F0 N0 lc0 n σ' (a.put o.dst v) w)→YieldsIf P ops D o v a→D w→
  (∀(l2:Array Bool) (j:Nat),HeadInv .any ops ops.size l2→(∀t,s.listed.getD t false=true→l2.getD t false=true)→l2.getD k true=false→j∈Region.ready .any ops l2→j≠k→∀w1 w2,ClR lvs wR j w1 w2→D w1→D w2)→
  wpO P ops Cl L (f+1) s.listed a w:=by
  intro v D ⟨σ',hK,hS⟩ hy hD hsafe
  refine d00 hoi hsel _ _ _ _ inv (Region.free_spec hoi hfree) (fun l2 j h1 h2 h3 h4 h5 w1 w2 hC=>hsafe l2 j h1 h2 h3 h4 h5 w1 w2 (hsb _ _ _ hC)) hr hy hD hrf ?_
  rw[hi.dst] at hS ⊢
  refine hrec σ' v hK hS (inv.set hr (w0b hr)) ⟨hO.st,fun hc=>?_⟩
  obtain⟨h1,h2⟩:=hO.cl hc
  exact⟨h1,h2.less fun t ht=>w0q ht⟩
 rcases hcase with⟨hwt,h0⟩ | ⟨hwt,σ',hK,hS⟩
 ·by_cases hasn:asnI x.i=true
  ·have h1:=q0q (Q:=Q0) (next:=fun a' w'=>∃σ',Kn σ'∧SR w0 F0 N0 lc0 n σ' a' w') hi h0 hsr fun _ _ h=>h
   have hex: ∀w2,(execOp a.eval o).run P w2 = .ok (.value (a.eval (match o.op with | .assign x0=>x0 | _=> .const undef))) w2:=by
    obtain⟨d,gd,i⟩:=x
    obtain⟨dst,op,ty,pos,after,guard⟩:=o
    have hop:=hi.op
    simp only at hasn hop
    intro w2
    rcases hop with hv | hm | hc
    ·cases hv <;> simp[asnI] at hasn
    ·cases hm <;> first | (simp[asnI] at hasn; done) | simp[execOp]
    ·cases hc <;> simp[asnI] at hasn
   unfold Oper.wp at h1
   rw[hex w,Oper.upon] at h1
   exact hnext _ (fun _=>True) h1 (.inl ⟨hwt,fun w2 _=>hex w2⟩) trivial fun _ _ _ _ _ _ _ _ _ _ _=>trivial
  ·have hp:s09 x.i=true:=by
    rcases hkind with hk | ⟨hk,_⟩
    ·have: ∀i:I,regI i=true→asnI i≠true→s09 i=true:=by
      intro i; cases i <;> simp[regI,asnI,s09]
     exact this _ hk hasn
    ·exact hk
   obtain⟨hv,v,σ1,hrun,hK⟩:=v0w hi.op hp h0
   obtain⟨h1,h2,N,lc,F,hB,hh,hFr⟩:=hsr
   obtain⟨tmps,ds⟩:=a
   simp only at h1 h2 hh
   subst h1
   obtain⟨g,G1,k1,k2,k3⟩:=o02 (ds:=[]) hv hrun hh
   have hS: ∃σ',Kn σ'∧SR w0 F0 N0 lc0 n σ' ((Act.mk tmps []).put o.dst g) w:=
    ⟨_,hK,by rw[y0i],by rw[x06]; exact h2,N,lc,F,hB,by
      rw[← hi.dst]
      exact y0j k3 k2 fun t ht=>by rw[h2]; exact (hi.lt t ht).1,hFr⟩
   rcases hkind with hk | ⟨_,hm⟩
   ·exact hnext _ (fun _=>True) hS (.inl ⟨hwt,fun w2 _=>k1 w2 (.inl hk)⟩) trivial fun _ _ _ _ _ _ _ _ _ _ _=>trivial
   ·refine hnext _ (Qw w) hS (.inl ⟨hwt,fun w2 hq=>k1 w2 (.inr hq.blk)⟩) (Qw.refl w) fun l2 j inv2 hsub hun hj hjk=>?_
    exact u1d hm inv.size l2 j inv2 hsub hun hj hjk hO.st
 ·exact hnext _ (fun _=>True) ⟨σ',hK,hS⟩ (.inr ⟨hwt,rfl⟩) trivial fun _ _ _ _ _ _ _ _ _ _ _=>trivial
theorem l01 {ops:Array Oper} {is:List Ins} {wR:World} {Kn:St→Prop} {lvs:List Nat} {k:Nat} {x:Ins} {s s':OS} {a:Act} {w:World} (hil:InsL P n ops ops.toList is)
 (hxi:is[k]?=some x) (hA:s0k lvs s k x=some s') (h:iwp P x Kn σ) (hsr:SR w0 F0 N0 lc0 n σ a w) (hO:OInv wR s a w) :
 s'.listed=s.listed.setIfInBounds k true∧wpOp P ops Q0 k (fun a' w'=>ClR lvs wR k w w'∧(∃σ',Kn σ'∧SR w0 F0 N0 lc0 n σ' a' w')∧OInv wR s' a' w'∧∀t,x.d≠some t→a'.tmps.getD t undef=a.tmps.getD t undef) a w:=by
 obtain⟨o,hoi,hi⟩:=n0y hil hxi
 have hcase:=f0h hi h hsr
 have hcl:=hO.cl
 have hwp: ∀(s2:OS),s2.st=false→
  (Region.wanted o (yielded ops a.tmps)=true→o.wp P a w (fun a' w'=>(∃σ',Kn σ'∧SR w0 F0 N0 lc0 n σ' a' w')∧ClR lvs wR k w w'∧(s2.cl=true→Qw wR w'∧FrInv wR s2.fr a')) Q0)→
  (s2.cl=true→Qw wR w∧FrInv wR s2.fr (a.put o.dst undef))→
  wpOp P ops Q0 k (fun a' w'=>ClR lvs wR k w w'∧(∃σ',Kn σ'∧SR w0 F0 N0 lc0 n σ' a' w')∧OInv wR s2 a' w'∧∀t,x.d≠some t→a'.tmps.getD t undef=a.tmps.getD t undef) a w:=by
  intro s2 e2 hrun hsk
  unfold wpOp
  simp only[hoi]
  rcases hcase with⟨hwt,h0⟩ | ⟨hwt,σ',hK,hS⟩
  ·rw[if_pos hwt]
   refine .inl (Oper.wp_mono ?_ (g03 (hrun hwt)))
   rintro a' w' ⟨⟨hS,hC,hc⟩,hkp⟩
   exact⟨hC,hS,⟨fun h=>(by rw[e2] at h; cases h),hc⟩,fun t ht=>hkp t (by rw[hi.dst]; exact ht)⟩
  ·rw[hwt]
   exact⟨ClR.refl w,⟨σ',hK,hS⟩,⟨fun h=>(by rw[e2] at h; cases h),hsk⟩,fun t ht=>w0q (by rw[hi.dst]; exact ht)⟩
 have h00:Region.wanted o (yielded ops a.tmps)=true→iwp0 P x.d x.i Kn σ:=fun hw=>by
  rcases hcase with⟨_,h0⟩ | ⟨hwt,_⟩
  ·exact h0
  ·rw[hw] at hwt; cases hwt
 have hskF: ∀(fr:List Nat) (d:Option Nat),x.d=d→FrInv wR fr a→FrInv wR (c0b fr d) (a.put o.dst undef):=fun fr d hd hf=>
  hf.less fun t ht=>w0q (by rw[hi.dst,hd]; exact ht)
 unfold s0k at hA
 split at hA
 ·-- it may do anything
  rename_i hlv
  injection hA with hA
  refine⟨by rw[← hA],hwp s' (by rw[← hA]) (fun hw=>?_) (fun hc=>by rw[← hA] at hc; cases hc)⟩
  refine Oper.wp_mono ?_ (q0q (Q:=Q0) (next:=fun a' w'=>∃σ',Kn σ'∧SR w0 F0 N0 lc0 n σ' a' w') hi (h00 hw) hsr fun _ _ h=>h)
  intro a' w' hS
  exact⟨hS,⟨fun h2=>(by rw[hlv] at h2; cases h2),fun h2=>absurd hlv h2⟩,fun hc=>by rw[← hA] at hc; cases hc⟩
 ·-- an append to what is new
  rename_i t1 e1 by1 fz1 t x1 d hlv hxi2 hxd
  split at hA
  case isFalse=>cases hA
  rename_i hc0
  simp only[Bool.and_eq_true,List.contains_iff_mem] at hc0
  injection hA with hA
  obtain⟨hq,hf⟩:=hcl hc0.1
  refine⟨by rw[← hA],hwp s' (by rw[← hA]) (fun hw=>?_) (fun hc=>?_)⟩
  ·refine Oper.wp_mono ?_ (g03 (o1t hi hxi2 (h00 hw) hsr hq (hf t hc0.2)))
   rintro a' w' ⟨⟨hS,hq',v,rfl,hv⟩,hkp⟩
   refine⟨hS,⟨fun h2=>(by rw[hlv] at h2; cases h2),fun _ _=>hq'⟩,fun _=>⟨hq',?_⟩⟩
   rw[← hA]
   refine FrInv.cons (hf.less fun t ht=>hkp t (by rw[hi.dst,hxd]; exact ht)) fun b hb=>?_
   have hod:o.dst=some d:=by rw[hi.dst,hxd]
   rw[hod] at hb
   exact hv b (l06 hb)
  ·rw[← hA]
   have hod:o.dst=some d:=by rw[hi.dst,hxd]
   refine⟨hq,FrInv.cons (hskF _ _ hxd hf) fun b hb=>?_⟩
   rw[hod] at hb
   have:=l06 hb
   simp[undef,Value.ownBlock] at this
 ·-- a new slice
  rename_i t1 e1 fz1 xs1 d hlv hxi2 hxd
  injection hA with hA
  refine⟨by rw[← hA],hwp s' (by rw[← hA]) (fun hw=>?_) (fun hc=>?_)⟩
  ·have h1:=i06 hi (by rw[hxi2]; rfl) (h00 hw) hsr
   have hexs: ∃sm:Sem Value,execOp a.eval o=(do pure (.value (← sm)))∧Fsh P sm:=by
    obtain⟨d',gd,i⟩:=x
    obtain⟨dst,op,ty,pos,after,guard⟩:=o
    have hop:=hi.op
    simp only at hxi2 hop
    subst hxi2
    rcases hop with hv | hm | hc
    ·cases hv
    ·cases hm; exact⟨_,rfl,Fsh.buildSlice _ _ _⟩
    ·cases hc
   obtain⟨sm,he,hF⟩:=hexs
   refine Oper.wp_mono ?_ (g03 (z2w he hF h1))
   rintro a' w' ⟨⟨⟨hS,hq'⟩,v,rfl,hv⟩,hkp⟩
   refine⟨hS,ClR.ofQ hq',fun hc=>?_⟩
   rw[← hA] at hc ⊢
   obtain⟨hq,hf⟩:=hcl hc
   refine⟨hq.trans hq',FrInv.cons (hf.less fun t ht=>hkp t (by rw[hi.dst,hxd]; exact ht)) fun b hb=>?_⟩
   have hod:o.dst=some d:=by rw[hi.dst,hxd]
   rw[hod] at hb
   exact Nat.le_trans hq.size (hv b (l06 hb))
  ·rw[← hA] at hc ⊢
   obtain⟨hq,hf⟩:=hcl hc
   have hod:o.dst=some d:=by rw[hi.dst,hxd]
   refine⟨hq,FrInv.cons (hskF _ _ hxd hf) fun b hb=>?_⟩
   rw[hod] at hb
   have:=l06 hb
   simp[undef,Value.ownBlock] at this
 ·-- it keeps what is there
  rename_i hlv _ hnb
  split at hA
  case isFalse=>cases hA
  rename_i hal
  injection hA with hA
  refine⟨by rw[← hA],hwp s' (by rw[← hA]) (fun hw=>?_) (fun hc=>?_)⟩
  ·refine Oper.wp_mono ?_ (g03 (i06 hi hal (h00 hw) hsr))
   rintro a' w' ⟨⟨hS,hq'⟩,hkp⟩
   refine⟨hS,ClR.ofQ hq',fun hc=>?_⟩
   rw[← hA] at hc ⊢
   obtain⟨hq,hf⟩:=hcl hc
   exact⟨hq.trans hq',hf.less fun t ht=>hkp t (by rw[hi.dst]; exact ht)⟩
  ·rw[← hA] at hc ⊢
   obtain⟨hq,hf⟩:=hcl hc
   exact⟨hq,hskF _ _ rfl hf⟩
 ·cases hA
theorem p0t {ops:Array Oper} {is:List Ins} {wR:World} {Kn:St→Prop} {L:Act→World→Prop} {lvs:List Nat} {f k fl:Nat} {s s':OS} {a:Act} {w:World} (hil:InsL P n ops ops.toList is) (hsel:Region.noSelect ops=true)
 {x:Ins} (hxi:is[k]?=some x) (hs:v03 ops is lvs fl s k=some s') (inv:HeadInv .any ops ops.size s.listed) (h:iwp P x Kn σ) (hsr:SR w0 F0 N0 lc0 n σ a w) (hO:OInv wR s a w)
 (hrec: ∀(σ':St) (a':Act) (w':World),Kn σ'→SR w0 F0 N0 lc0 n σ' a' w'→HeadInv .any ops ops.size s'.listed→OInv wR s' a' w'→(∀t,x.d≠some t→a'.tmps.getD t undef=a.tmps.getD t undef)→wpO P ops (ClR lvs wR) L f s'.listed a' w')
 (hfl:fl∈Region.ready .any ops s.listed→fl≠k→wpOp P ops Q0 fl (fun a' w'=>ClR lvs wR fl w w'∧wpO P ops (ClR lvs wR) L f (s.listed.setIfInBounds fl true) a' w') a w) :
 wpO P ops (ClR lvs wR) L (f+1) s.listed a w:=by
 unfold v03 at hs
 rw[hxi] at hs
 simp only at hs
 split at hs
 ·rename_i hp
  injection hs with hs
  subst hs
  exact a0f (fun w=>ClR.refl w) (fun _ _ _ h=>h) hil hsel hxi hp inv h hsr hO fun σ' v k1 k2 k3 k4=>hrec σ' _ w k1 k2 k3 k4 fun t ht=>w0q ht
 ·split at hs
  case isFalse=>cases hs
  rename_i hrd
  simp only[Bool.and_eq_true,List.all_eq_true,Bool.or_eq_true,beq_iff_eq,List.contains_iff_mem] at hrd
  obtain⟨hall,hk⟩:=hrd
  obtain⟨e,hwp⟩:=l01 hil hxi hs h hsr hO
  refine⟨List.ne_nil_of_mem hk,fun j hj=>?_⟩
  by_cases hjk:j=k
  ·subst hjk
   refine wpOp_mono ?_ hwp
   rintro a' w' ⟨hC,⟨σ',hK,hS⟩,hO',hkp⟩
   refine⟨hC,?_⟩
   rw[← e]
   exact hrec σ' a' w' hK hS (by rw[e]; exact inv.set hj (w0b hj)) hO' hkp
  ·rcases hall j hj with h1 | h1
   ·exact absurd h1 hjk
   ·subst h1; exact hfl hj hjk
theorem j0j {ops:Array Oper} {is:List Ins} {wR:World} {K:St→Prop} {L:Act→World→Prop} (hil:InsL P n ops ops.toList is) (hsel:Region.noSelect ops=true)
 (hfin: ∀σ' a' w',K σ'→SR w0 F0 N0 lc0 n σ' a' w'→L a' w') :
 ∀(ks:List Nat) (s:OS) (a:Act) (σ:St) (w:World),ordB ops is (lvGo is []) ks s=true→HeadInv .any ops ops.size s.listed→y0y P (y0g is ks) K σ→SR w0 F0 N0 lc0 n σ a w→OInv wR s a w→
  wpO P ops (ClR (lvGo is []) wR) L ks.length s.listed a w
 | [],s,a,σ,w,hb,inv,h,hsr,hO=>by
   refine⟨fun i hi=>?_,hfin _ _ _ h hsr⟩
   simp only[ordB,List.all_eq_true,List.mem_range] at hb
   exact hb i hi
 | k :: ks,s,a,σ,w,hb,inv,h,hsr,hO=>by
   simp only[ordB] at hb
   split at hb
   case h_2=>cases hb
   rename_i s' hstep
   cases hxi:is[k]? with
   | none=>rw[v03,hxi] at hstep; cases hstep
   | some x=>
     simp only[y0g,hxi,y0y] at h
     refine p0t hil hsel hxi hstep inv h hsr hO (fun σ' a' w' k1 k2 k3 k4 _=>j0j hil hsel hfin ks s' a' σ' w' hb k3 k1 k2 k4) fun hj _=>?_
     exact absurd (w0b hj) (Nat.lt_irrefl _)
def ptB (v:Value):Nat:=match v with
 | .pointer (some ad)=>ad.block
 | _=>0
def ClA (lvs:List Nat) (wR:World) (ap:List Nat) (bs:List Nat):Nat→World→World→Prop:=fun j w1 w2=>ClR lvs wR j w1 w2∧(ap.contains j=true→∀b∈bs,w2.heap[b]?=w1.heap[b]?)
theorem i07 {p id:Nat} {a:Act} (h:s0z σ p=some id) (ht:x0u w N lc a.tmps σ.tm F): ∃o cap,look σ.ob id=some o∧lc id=some (ptB (a.tmps.getD p undef),cap):=by
 unfold s0z at h
 split at h
 case h_2=>cases h
 rename_i e id' i f hl
 split at h
 case h_2=>cases h
 rename_i o ho
 injection h with h
 subst h
 obtain⟨F1,F2,_,⟨_,b,cap,hr,hv⟩,_⟩:=x00 σ.tm F p _ hl ht
 rw[hv]
 exact⟨o,cap,ho,hr⟩
theorem m02 {ops:Array Oper} {o:Oper} {x:Ins} {p b:Nat} {a:Act} {K:St→Prop} (hi:InsK P n ops o x) (hap:apI x.i=true) (h:m00 P x σ p) (h0:iwp0 P x.d x.i K σ) (hs:SR w0 F0 N0 lc0 n σ a w)
 (hb:ptB (a.tmps.getD p undef)=b): ∃r v w',(execOp a.eval o).run P w = .ok r w'∧(r = .value v∨(r = .skip∧v=undef))∧w'.heap[b]?=w.heap[b]?:=by
 unfold m00 at h
 cases hp:s0z σ p with
 | none=>rw[hp] at h; exact h.elim
 | some id=>
 rw[hp] at h
 simp only at h
 obtain⟨h1,h2,N,lc,F,hB,hh,hFr⟩:=hs
 have hhold:=hh
 obtain⟨Ft,Fo,hle,ht,ho⟩:=hh
 obtain⟨ob,cap,hob,hlc⟩:=i07 hp ht
 rw[hb] at hlc
 obtain⟨F1,F2,hle2,hO,h2'⟩:=y0d σ.ob Fo id ob hob ho
 have hb1:b<w.heap.size∧Ft b+F2 b=0:=by
  rcases hO with⟨hn,_⟩ | ⟨b',cap',cur,F',hl,hbk,_,_,_,_,hF⟩
  ·rw[hlc] at hn; cases hn
  ·rw[hlc] at hl
   injection hl with hl
   injection hl with hl _
   subst hl
   have e1:1≤F1 b:=by rw[hF]; simp only[add,Am.one,if_true]; omega
   have e2:=hle b
   have e3:=hle2 b
   have e4:=hB.one b
   exact⟨(Array.getElem?_eq_some_iff.1 hbk).1,by omega⟩
 have hB2:Base w N (add Ft F2):=⟨fun x=>by have:=hle x; have:=hle2 x; have:=hB.one x; simp only[add]; omega,fun x hx=>hB.lt x (by have:=hle x; have:=hle2 x; simp only[add] at hx; omega),
  fun x hx=>⟨by have:=hle x; have:=hle2 x; have:=(hB.nb x hx).1; simp only[add]; omega,(hB.nb x hx).2⟩⟩
 have hh2:Hold w N lc { tm:=σ.tm,ob:=del σ.ob id } a.tmps (add Ft F2) fz:=⟨Ft,F2,fun x=>by simp only[fz,add]; omega,ht,h2'⟩
 obtain⟨tmps,ds⟩:=a
 simp only at h1 h2 hhold hh2
 subst h1
 obtain⟨d,gd,i⟩:=x
 obtain⟨dst,op,ty,pos,after,guard⟩:=o
 have hop:=hi.op
 have hd:=hi.dst
 have hdt: ∀k,dst=some k→k<tmps.size:=fun k hk=>by rw[h2]; exact (hi.lt k hk).1
 simp only at hop hap h h0 hd
 subst hd
 rcases hop with hv | hm | hc
 ·cases hv <;> simp[apI] at hap
 ·cases hm with
  | @st t n' fzm p v p' v' hp hv hs'=>
    simp only at h
    rw[v0e (t03 (.st hp hv hs')),x0n (.st hp hv hs')] at h
    cases hr:runM dst (.st n' fzm p' v') { tm:=σ.tm,ob:=del σ.ob id } with
    | none=>rw[hr] at h; exact h.elim
    | some σ1=>
      cases dst with
      | some d0=>simp[runM] at hr
      | none=>
        obtain⟨r,v,w',N',lc',F',hrun,hv,_,_,hFr'⟩:=z2v (P:=P) (ds:=[]) (o:={ dst:=none,op:= .store t p v,type:=ty,pos,after,guard }) rfl rfl hp hv hs' hr hB2 hh2
        exact⟨r,v,w',hrun,hv,hFr'.keep b hb1.1 hb1.2⟩
  | @app t el e by_ fzm s x s' x' ti zv hs' hx ht' hti hz hsz hby hby2 hzs he=>
    simp only at h
    rw[v0e (t03 (.app hs' hx ht' hti hz hsz hby hby2 hzs he)),x0n (.app hs' hx ht' hti hz hsz hby hby2 hzs he)] at h0
    cases hr:runM dst (.app el e by_ fzm s' x') σ with
    | none=>rw[hr] at h0; exact h0.elim
    | some σ1=>
      cases htk:e0s σ s' with
      | none=>rw[htk] at h; simp[x1s] at h
      | some q=>
        obtain⟨a0,σ4⟩:=q
        rw[htk] at h
        simp only[x1s,Option.isSome_iff_exists] at h
        obtain⟨o1,ho1⟩:=h
        obtain⟨v,w',hrun,hk⟩:=r14 (P:=P) (ds:=[]) (o:={ dst,op:=_,type:=ty,pos,after,guard }) rfl hs' hx ht' hti hz hsz hby hby2 hzs he hr hB hhold htk ho1 hlc
        exact⟨_,v,w',hrun,.inl rfl,hk⟩
  | _=>simp[apI] at hap
 ·cases hc <;> simp[apI] at hap
theorem k0v {ops:Array Oper} {o:Oper} {x:Ins} {a:Act} {K:St→Prop} (hi:InsK P n ops o x) (hap:apI x.i=true) (h0:iwp0 P x.d x.i K σ) (hs:SR w0 F0 N0 lc0 n σ a w): ∀{ps:List Nat},ps≠[]→g0c P x σ ps→
 ∃r v w',(execOp a.eval o).run P w = .ok r w'∧(r = .value v∨(r = .skip∧v=undef))∧∀b∈ps.map (fun p=>ptB (a.tmps.getD p undef)),w'.heap[b]?=w.heap[b]?
 | [],hne,_=>absurd rfl hne
 | [p],_,h=>by
   obtain⟨r,v,w',h1,h2,h3⟩:=m02 hi hap h.1 h0 hs rfl
   exact⟨r,v,w',h1,h2,fun b hb=>by
    simp only[List.map_cons,List.map_nil,List.mem_singleton] at hb
    rw[hb]; exact h3⟩
 | p :: q :: ps,_,h=>by
   obtain⟨r,v,w',h1,h2,h3⟩:=m02 hi hap h.1 h0 hs rfl
   obtain⟨r2,v2,w2,k1,k2,k3⟩:=k0v hi hap h0 hs (ps:=q :: ps) (by simp) h.2
   rw[h1] at k1
   injection k1 with _ k1
   subst k1
   exact⟨r,v,w',h1,h2,fun b hb=>by
    rw[List.map_cons] at hb
    rcases List.mem_cons.1 hb with rfl | hb
    ·exact h3
    ·exact k3 b hb⟩
theorem m10 {o:Oper} {nn q id:Nat} {ag:Bool} {v:A} {a:Act} (hi:IsV P o.op (.ld nn ag (.t q))) (h:runV (.ld nn ag (.t q)) σ=some (v,σ1)) (hh:Hold w N lc σ a.tmps F fz) (hq:s0z σ q=some id) :
 ∃g,(∃ob,w.heap[ptB (a.tmps.getD q undef)]?=some ob)∧(∀w',w'.heap[ptB (a.tmps.getD q undef)]?=w.heap[ptB (a.tmps.getD q undef)]?→(execOp a.eval o).run P w' = .ok (.value g) w')∧repA w N lc v g fz∧Hold w N lc σ1 a.tmps F fz:=by
 obtain⟨tmps,ds⟩:=a
 obtain⟨dst,op,ty,pos,after,guard⟩:=o
 unfold s0z at hq
 split at hq
 case h_2=>cases hq
 rename_i e id' i f hl
 split at hq
 case h_2=>cases hq
 rename_i o1 hlo
 injection hq with hq
 subst hq
 cases hi with
 | @ld t9 nn ag9 p9 p9' hx hs ha h1=>
   have hev:ev σ (.t q)=some (.one (.pt e id' [] i f)):=hl
   obtain⟨G0,⟨rfl,b,cap,hres,hv⟩,_⟩:=y0r (ds:=ds) hx hev hh
   have hv2:tmps.getD q undef = .pointer (some ⟨b,i*e+f,none⟩):=by
    cases p9 with
    | tmp m=>
      have:q=m:=hx
      subst this
      simpa [Act.eval] using hv
    | _=>exact hx.elim
   simp only[runV,hev,hlo,getA] at h
   cases hrow:o1.xs[i]? with
   | none=>rw[hrow] at h; simp at h
   | some row=>
     rw[hrow] at h
     simp only at h
     split at h
     case isFalse=>cases h
     rename_i he
     split at h
     case isFalse=>cases h
     rename_i hfn
     simp only[Option.some.injEq,Prod.mk.injEq] at h
     obtain⟨rfl,rfl⟩:=h
     have h0:=hh
     obtain⟨Ft,Fo,hle,htm,hob⟩:=hh
     obtain⟨F1,F2,_,hO,_⟩:=y0d σ.ob Fo id' o1 hlo hob
     rcases hO with⟨_,hnil⟩ | ⟨b',cap',cur,F',hl2,hb,hl3,hc,hs',hr,_⟩
     ·rw[hnil] at hrow; simp at hrow
     ·have hbb:b=b':=by
       simp only[resF] at hres
       rw[hres] at hl2; injection hl2 with h; injection h
      subst hbb
      obtain⟨F5,_,hre,hrep,hlen⟩:=t0a hr hrow
      rw[List.length_take,Array.length_toList] at hlen
      obtain⟨F6,_,hd⟩:=s0o f hrep
      obtain⟨F7,_,htk⟩:=q0x nn hd
      have hcells: ∀j v,(((((cur.toList.take (o1.xs.length*o1.e)).drop (i*o1.e)).take o1.e).drop f).take nn)[j]?=some v→w.cell? ⟨b,i*e+(f+j),none⟩=some v:=by
       intro j v hj
       rw[List.getElem?_take] at hj
       split at hj
       case isFalse=>cases hj
       rw[List.getElem?_drop,List.getElem?_take] at hj
       split at hj
       case isFalse=>cases hj
       rw[List.getElem?_drop] at hj
       rw[y07 hb,← he,← Nat.add_assoc]
       have:=w0c hj
       rwa [← Nat.add_assoc] at this
      have hview:=q0y (lc:=lc) (e:=e) (id:=id') (st:=[]) (i:=i) hres _ _ f _ htk hcells
      have hlen2:(((((cur.toList.take (o1.xs.length*o1.e)).drop (i*o1.e)).take o1.e).drop f).take nn).length=nn:=by
       rw[y01 htk,List.length_take,List.length_drop]; omega
      have hpb:ptB (tmps.getD q undef)=b:=by rw[hv2]; rfl
      refine⟨_,⟨_,by simp only[hpb]; exact hb⟩,?_,l0d (by rw[s0s,List.length_take,List.length_drop]; omega) h1 hview,h0⟩
      intro w' hw'
      simp only[hpb] at hw'
      have:=w0s (P:=P) (w:=w') hs ha h1 b (i*e+f) _ hlen2 (fun j v hj=>by rw[Nat.add_assoc,World.cell?_of_block (w:=w) hw']; exact hcells j v hj)
      simp only[execOp,hv,Instr.loadAt,Instr.sureAddr,Sem.run_bind,Sem.run_pure,Result.andThen_ok,this]
theorem ap_ld {ops:Array Oper} {is:List Ins} {wR:World} {Kn:St→Prop} {L:Act→World→Prop} {lvs ap ps bs:List Nat} {f k c:Nat} {x:Ins} {s:OS} {a:Act} {w:World} (hil:InsL P n ops ops.toList is) (hsel:Region.noSelect ops=true)
 (hxi:is[k]?=some x) (hc:((Region.ready .any ops s.listed).contains k && ldI x.i && x.gd.isNone && memA ops lvs ap s k && Region.free .any ops s.listed k)=true) (inv:HeadInv .any ops ops.size s.listed) (h:iwp P x Kn σ) (hc2:2≤c) (hchk:g0b P ps c x σ) (hsr:SR w0 F0 N0 lc0 n σ a w) (hO:OInv wR s a w)
 (hpb:ps.map (fun p=>ptB (a.tmps.getD p undef))=bs)
 (hrec: ∀(σ':St) (v:Value),Kn σ'→SR w0 F0 N0 lc0 n σ' (a.put x.d v) w→HeadInv .any ops ops.size (s.listed.setIfInBounds k true)→OInv wR (p0s s k x) (a.put x.d v) w→wpO P ops (ClA lvs wR ap bs) L f (s.listed.setIfInBounds k true) (a.put x.d v) w) :
 wpO P ops (ClA lvs wR ap bs) L (f+1) s.listed a w:=by
 obtain⟨o,hoi,hi⟩:=n0y hil hxi
 simp only[Bool.and_eq_true,List.contains_iff_mem,Option.isNone_iff_eq_none] at hc
 obtain⟨⟨⟨⟨hr,hld⟩,hgd⟩,hm⟩,hfree⟩:=hc
 obtain⟨d,gd,ii⟩:=x
 simp only at hgd hld
 subst hgd
 have hwt:Region.wanted o (yielded ops a.tmps)=true:=by
  rcases hi.gd with⟨hg,_⟩ | ⟨j,want,t,hg,hg',hj⟩
  ·simp[Region.wanted,hg]
  ·cases hg'
 cases ii with
 | ld nn ag xq=>
   cases xq with
   | c=>simp[ldI] at hld
   | t q=>
     simp only[g0b] at hchk
     rw[if_neg (by omega),if_neg (by omega)] at hchk
     cases hpc:ps[c - 2]? with
     | none=>rw[hpc] at hchk; exact hchk.elim
     | some p=>
     rw[hpc] at hchk
     obtain⟨id,hp,hq⟩:=hchk
     obtain⟨b,hbb⟩: ∃b,ptB (a.tmps.getD p undef)=b:=⟨_,rfl⟩
     have hbm:b∈bs:=by
      rw[← hpb,← hbb]
      exact List.mem_map_of_mem (List.mem_of_getElem? hpc)
     simp only[iwp] at h
     obtain⟨hv,v,σ1,hrun,hK⟩:=v0w hi.op rfl h
     have hsr0:=hsr
     obtain⟨h1,h2,N,lc,F,hB,hh,hFr⟩:=hsr
     obtain⟨g,⟨ob,hob⟩,k1,k2,k3⟩:=m10 (a:=a) hv hrun hh hq
     have hqb:ptB (a.tmps.getD q undef)=b:=by
      obtain⟨Ft,Fo,hle,ht,ho⟩:=hh
      obtain⟨_,cap1,_,e1⟩:=i07 hp ht
      obtain⟨_,cap2,_,e2⟩:=i07 hq ht
      rw[e1] at e2
      injection e2 with e2
      injection e2 with e2 _
      rw[← e2,hbb]
     rw[hqb] at k1 hob
     have hS:SR w0 F0 N0 lc0 n (setT σ1 d v) (a.put o.dst g) w:=by
      refine⟨by rw[y0i]; exact h1,by rw[x06]; exact h2,N,lc,F,hB,?_,hFr⟩
      obtain⟨tmps,ds⟩:=a
      have hdd:o.dst=d:=hi.dst
      rw[← hdd]
      exact y0j (ds:=ds) (by rw[z0g]; exact k3) k2 fun t ht=>by simp only at h2; rw[h2]; exact (hi.lt t ht).1
     refine d00 (D:=fun w2=>w2.heap[b]?=w.heap[b]?) hoi hsel _ _ _ _ inv (Region.free_spec hoi hfree) ?_ hr (.inl ⟨hwt,fun w2 hw2=>k1 w2 hw2⟩) rfl (fun w=>⟨ClR.refl w,fun _ _ _=>rfl⟩) ?_
     ·intro l2 j inv2 hsub hun hj hjk w1 w2 hC hw1
      simp only[memA,List.all_eq_true,List.mem_range,Bool.or_eq_true,beq_iff_eq] at hm
      have hlt:=w0b hj
      rcases hm j hlt with (((h | h) | h) | h) | h
      ·exact absurd h hjk
      ·have hj1:s.listed.getD j false=true:=by
        have h':j<s.listed.size:=by rw[inv.size]; exact hlt
        simpa [h'] using h
       have hj2:=hsub j hj1
       have hj3:=getD_both (mem_ready.1 hj).1
       rw[hj2] at hj3; cases hj3
      ·exact ((hC.1.1 h).blk b (by rw[hob] at hw1; exact (Array.getElem?_eq_some_iff.1 hw1).1)).trans hw1
      ·exact absurd hj (j04 inv2 hun (by simpa using h))
      ·exact (hC.2 h b hbm).trans hw1
     ·rw[hi.dst] at hS ⊢
      refine hrec _ g hK hS (inv.set hr (w0b hr)) ⟨hO.st,fun hc=>?_⟩
      obtain⟨h1,h2⟩:=hO.cl hc
      exact⟨h1,h2.less fun t ht=>w0q ht⟩
 | _=>simp[ldI] at hld
theorem r13 {ops:Array Oper} {is:List Ins} {wR:World} {K:St→Prop} {L:Act→World→Prop} {ps bs ap:List Nat} (hil:InsL P n ops ops.toList is) (hsel:Region.noSelect ops=true) (hne:ps≠[]) (hpd: ∀x∈is,∀p∈ps,x.d≠some p)
 (hap: ∀j∈ap,∃x,is[j]?=some x∧apI x.i=true∧x.gd=none) (hfin: ∀σ' a' w',K σ'→SR w0 F0 N0 lc0 n σ' a' w'→L a' w') :
 ∀(ks cs:List Nat) (s:OS) (a:Act) (σ:St) (w:World),apB ops is (lvGo is []) ap ks cs s=true→HeadInv .any ops ops.size s.listed→apwp P ps cs (y0g is ks) K σ→SR w0 F0 N0 lc0 n σ a w→OInv wR s a w→ps.map (fun p=>ptB (a.tmps.getD p undef))=bs→
  wpO P ops (ClA (lvGo is []) wR ap bs) L ks.length s.listed a w
 | [],[],s,a,σ,w,hb,inv,h,hsr,hO,hpb=>by
   refine⟨fun i hi=>?_,hfin _ _ _ (by simpa [apwp,y0g] using h) hsr⟩
   simp only[apB,List.all_eq_true,List.mem_range] at hb
   exact hb i hi
 | [],_ :: _,s,a,σ,w,hb,_,_,_,_,_=>by simp[apB] at hb
 | _ :: _,[],s,a,σ,w,hb,_,_,_,_,_=>by simp[apB] at hb
 | k :: ks,c :: cs,s,a,σ,w,hb,inv,h,hsr,hO,hpb=>by
   simp only[apB] at hb
   split at hb
   case h_2=>cases hb
   rename_i c' s' hstep
   simp only[Bool.and_eq_true,Bool.or_eq_true,beq_iff_eq,decide_eq_true_eq] at hb
   obtain⟨hcc,hb⟩:=hb
   cases hxi:is[k]? with
   | none=>rw[b0i,hxi] at hstep; cases hstep
   | some x=>
     have hxp:=hpd x (List.mem_of_getElem? hxi)
     simp only[y0g,hxi,apwp] at h
     obtain⟨hchk,h⟩:=h
     simp only[b0i,hxi] at hstep
     split at hstep
     ·rename_i hp
      simp only[Option.some.injEq,Prod.mk.injEq] at hstep
      obtain⟨rfl,rfl⟩:=hstep
      exact a0f (Cl:=ClA (lvGo is []) wR ap bs) (fun w=>⟨ClR.refl w,fun _ _ _=>rfl⟩) (fun _ _ _ h=>h.1) hil hsel hxi hp inv h hsr hO fun σ' v k1 k2 k3 k4=>
       r13 hil hsel hne hpd hap hfin ks cs _ _ σ' w hb k3 k1 k2 k4 (by rw[← hpb]; exact List.map_congr_left fun p hp=>by rw[w0q (hxp p hp)])
     ·split at hstep
      ·rename_i hp
       simp only[Option.some.injEq,Prod.mk.injEq] at hstep
       obtain⟨rfl,rfl⟩:=hstep
       exact ap_ld hil hsel hxi hp inv h (by omega) hchk hsr hO hpb fun σ' v k1 k2 k3 k4=>
        r13 hil hsel hne hpd hap hfin ks cs _ _ σ' w hb k3 k1 k2 k4 (by rw[← hpb]; exact List.map_congr_left fun p hp=>by rw[w0q (hxp p hp)])
      ·split at hstep
       case isFalse=>cases hstep
       rename_i hrd
       simp only[Bool.and_eq_true,List.all_eq_true,beq_iff_eq,List.contains_iff_mem] at hrd
       obtain⟨hall,hk⟩:=hrd
       cases hA:s0k (lvGo is []) s k x with
       | none=>rw[hA] at hstep; cases hstep
       | some s2=>
         rw[hA] at hstep
         simp only[Option.map_some,Option.some.injEq,Prod.mk.injEq] at hstep
         obtain⟨hc1,rfl⟩:=hstep
         obtain⟨e,hwp⟩:=l01 hil hxi hA h hsr hO
         refine⟨List.ne_nil_of_mem hk,fun j hj=>?_⟩
         have hjk:=hall j hj
         subst hjk
         have hwp2:wpOp P ops Q0 j (fun a' w'=>(ap.contains j=true→∀b∈bs,w'.heap[b]?=w.heap[b]?)∧ClR (lvGo is []) wR j w w'∧(∃σ',apwp P ps cs (y0g is ks) K σ'∧SR w0 F0 N0 lc0 n σ' a' w')∧OInv wR s2 a' w'∧∀t,x.d≠some t→a'.tmps.getD t undef=a.tmps.getD t undef) a w:=by
          by_cases hja:ap.contains j=true
          ·obtain⟨x',hx',hxa,hxg⟩:=hap j (by simpa using hja)
           rw[hxi] at hx'
           injection hx' with hx'
           subst hx'
           rw[if_pos hja] at hc1
           have hc1':c=1:=by omega
           rw[hc1'] at hchk
           simp only[g0b] at hchk
           rw[if_neg (by omega),if_pos trivial] at hchk
           obtain⟨o,hoi,hi⟩:=n0y hil hxi
           have hwt:Region.wanted o (yielded ops a.tmps)=true:=by
            rcases hi.gd with⟨hg,_⟩ | ⟨j,want,t,hg,hg',hj⟩
            ·simp[Region.wanted,hg]
            ·rw[hxg] at hg'; cases hg'
           have h0:iwp0 P x.d x.i (apwp P ps cs (y0g is ks) K) σ:=by
            simp only[iwp,hxg] at h
            exact h
           obtain⟨r,v,w',hrun,hrv,hkeep⟩:=k0v hi hxa h0 hsr hne hchk
           rw[hpb] at hkeep
           unfold wpOp at hwp ⊢
           simp only[hoi] at hwp ⊢
           rw[if_pos hwt] at hwp ⊢
           rcases hwp with hwp | ⟨_,_,_,hf⟩
           ·left
            unfold Oper.wp at hwp ⊢
            rw[hrun] at hwp ⊢
            rcases hrv with rfl | ⟨rfl,rfl⟩
            ·exact⟨fun _=>hkeep,hwp⟩
            ·exact⟨fun _=>hkeep,hwp⟩
           ·exact hf.elim
          ·exact wpOp_mono (fun a' w' h'=>⟨fun h=>absurd h hja,h'⟩) hwp
         refine wpOp_mono ?_ hwp2
         rintro a' w' ⟨hkb,hC,⟨σ',hK,hS⟩,hO',hkp⟩
         refine⟨⟨hC,hkb⟩,?_⟩
         rw[← e]
         exact r13 hil hsel hne hpd hap hfin ks cs s2 a' σ' w' hb (by rw[e]; exact inv.set hj (w0b hj)) hK hS hO' (by rw[← hpb]; exact List.map_congr_left fun p hp=>by rw[hkp p (hxp p hp)])
theorem o1j {ops:Array Oper} {is:List Ins} {wR:World} {K:St→Prop} {L:Act→World→Prop} {k1 k2:Nat} {r1 r2:List Nat} (hil:InsL P n ops ops.toList is) (hsel:Region.noSelect ops=true) (hlen:r2.length=r1.length)
 (hfin: ∀σ' a' w',K σ'→SR w0 F0 N0 lc0 n σ' a' w'→L a' w') :
 ∀(ks:List Nat) (s:OS) (a:Act) (σ:St) (w:World),twoB ops is (lvGo is []) k1 k2 r1 r2 ks s=true→HeadInv .any ops ops.size s.listed→y0y P (y0g is ks) (fun σ'=>y0y P (y0g is (k1 :: r1)) K σ'∧y0y P (y0g is (k2 :: r2)) K σ') σ→SR w0 F0 N0 lc0 n σ a w→OInv wR s a w→
  wpO P ops (ClR (lvGo is []) wR) L (r1.length+1+ks.length) s.listed a w
 | [],s,a,σ,w,hb,inv,h,hsr,hO=>by
   simp only[twoB] at hb
   split at hb
   case h_2=>cases hb
   rename_i x1 x2 hx1 hx2
   simp only[Bool.and_eq_true] at hb
   obtain⟨_,hb⟩:=hb
   split at hb
   case h_2=>cases hb
   rename_i s1 s2 hs1 hs2
   simp only[Bool.and_eq_true] at hb
   obtain⟨hb1,hb2⟩:=hb
   simp only[y0g,y0y,hx1,hx2] at h
   refine p0t hil hsel hx1 hs1 inv h.1 hsr hO (fun σ' a' w' j1 j2 j3 j4 _=>j0j hil hsel hfin r1 s1 a' σ' w' hb1 j3 j1 j2 j4) fun hj hne=>?_
   obtain⟨e,hwp⟩:=l01 hil hx2 hs2 h.2 hsr hO
   refine wpOp_mono ?_ hwp
   rintro a' w' ⟨hC,⟨σ',hK,hS⟩,hO',_⟩
   refine⟨hC,?_⟩
   rw[← e,← hlen]
   exact j0j hil hsel hfin r2 s2 a' σ' w' hb2 (by rw[e]; exact inv.set hj (w0b hj)) hK hS hO'
 | k :: ks,s,a,σ,w,hb,inv,h,hsr,hO=>by
   simp only[twoB] at hb
   split at hb
   case h_2=>cases hb
   rename_i s' hstep
   cases hxi:is[k]? with
   | none=>rw[v03,hxi] at hstep; cases hstep
   | some x=>
     rw[y0g,hxi] at h
     simp only[y0y] at h
     refine p0t hil hsel hxi hstep inv h hsr hO (fun σ' a' w' j1 j2 j3 j4 _=>o1j hil hsel hlen hfin ks s' a' σ' w' hb j3 j1 j2 j4) fun hj _=>?_
     exact absurd (w0b hj) (Nat.lt_irrefl _)
theorem u1t {ops:Array Oper} {is:List Ins} {wR:World} {K:St→Prop} {L:Act→World→Prop} {d m:Nat} {s1:OS} {v:Value} (hil:InsL P n ops ops.toList is) (hsel:Region.noSelect ops=true)
 (hfin: ∀σ' a' w',K σ'→SR w0 F0 N0 lc0 n σ' a' w'→HeadInv .any ops ops.size s1.listed→OInv wR s1 a' w'→a'.tmps.getD d undef=v→wpO P ops (ClR (lvGo is []) wR) L m s1.listed a' w') :
 ∀(ks:List Nat) (s:OS) (a:Act) (σ:St) (w:World),e00 ops is (lvGo is []) d ks s=some s1→HeadInv .any ops ops.size s.listed→m0a P d (y0g is ks) K σ→SR w0 F0 N0 lc0 n σ a w→OInv wR s a w→a.tmps.getD d undef=v→
  wpO P ops (ClR (lvGo is []) wR) L (m+ks.length) s.listed a w
 | [],s,a,σ,w,hb,inv,h,hsr,hO,hv=>by
   simp only[e00,Option.some.injEq] at hb
   subst hb
   exact hfin _ _ _ h hsr inv hO hv
 | k :: ks,s,a,σ,w,hb,inv,h,hsr,hO,hv=>by
   simp only[e00] at hb
   split at hb
   case isTrue=>cases hb
   rename_i hd
   split at hb
   case h_2=>cases hb
   rename_i s' hstep
   cases hxi:is[k]? with
   | none=>rw[v03,hxi] at hstep; cases hstep
   | some x=>
     simp only[y0g,hxi,m0a] at h
     rw[hxi] at hd
     refine p0t hil hsel hxi hstep inv h.2 hsr hO (fun σ' a' w' k1 k2 k3 k4 k5=>u1t hil hsel hfin ks s' a' σ' w' hb k3 k1 k2 k4 ((k5 d hd).trans hv)) fun hj _=>?_
     exact absurd (w0b hj) (Nat.lt_irrefl _)
theorem f0r {α:Type} {d:Nat}: ∀{l:List (Nat×α)},look l d=none→∀k a,(k,a)∈l→k≠d
 | [],_,_,_,h=>by cases h
 | (k,a) :: r,h,k',a',hm=>by
   simp only[look] at h
   split at h
   ·cases h
   ·rename_i hk
    rcases List.mem_cons.1 hm with hm | hm
    ·injection hm with h1 _; subst h1; exact hk
    ·exact f0r h k' a' hm
theorem p1w {ops:Array Oper} {is:List Ins} {wR:World} {K:St→Prop} {L:Act→World→Prop} {fl d t e:Nat} {z:List C} {post:List Nat} (hil:InsL P n ops ops.toList is) (hsel:Region.noSelect ops=true)
 (hfl:is[fl]?=some ⟨some d,none,.alc t e z⟩) (hfin: ∀σ' a' w',K σ'→SR w0 F0 N0 lc0 n σ' a' w'→L a' w') :
 ∀(ks:List Nat) (s:OS) (a:Act) (σ:St) (w:World),fltB ops is (lvGo is []) fl d post ks s=true→HeadInv .any ops ops.size s.listed→m0a P d (y0g is ks) (y0y P (y0g is (fl :: post)) K) σ→SR w0 F0 N0 lc0 n σ a w→OInv wR s a w→
  wpO P ops (ClR (lvGo is []) wR) L (post.length+1+ks.length) s.listed a w
 | [],s,a,σ,w,hb,inv,h,hsr,hO=>j0j hil hsel hfin (fl :: post) s a σ w hb inv h hsr hO
 | k :: ks,s,a,σ,w,hb,inv,h,hsr,hO=>by
   simp only[fltB,Bool.and_eq_true,bne_iff_ne,ne_eq] at hb
   obtain⟨⟨hkf,hseg⟩,hstep⟩:=hb
   split at hstep
   case h_2=>cases hstep
   rename_i s' hstep'
   split at hseg
   case h_2=>cases hseg
   rename_i s1 hseg'
   have hall:=h
   cases hxi:is[k]? with
   | none=>rw[v03,hxi] at hstep'; cases hstep'
   | some x=>
     simp only[y0g,hxi,m0a] at h
     refine p0t hil hsel hxi hstep' inv h.2 hsr hO (fun σ' a' w' k1 k2 k3 k4 _=>p1w hil hsel hfl hfin ks s' a' σ' w' hstep k3 k1 k2 k4) fun hj _=>?_
     obtain⟨o,hoi,hi⟩:=n0y hil hfl
     have hgn:o.guard=none:=by rcases hi.gd with⟨hg,_⟩ | ⟨_,_,_,_,hg,_⟩ <;> first | exact hg | cases hg
     have hod:o.dst=some d:=hi.dst
     have hdn:=hi.lt d hod
     obtain⟨dst,op,ty,pos,after,guard⟩:=o
     simp only at hgn hod hdn
     subst hgn
     subst hod
     rcases hi.op with hv | hm | hc
     ·cases hv
     case inr.inr=>cases hc
     cases hm with
     | @alc _ _ _ ti zv hti hz hl hzr=>
     obtain⟨hdef,hsz,N,lc,F,hB,hh,hFr⟩:=hsr
     obtain⟨tmps,ds⟩:=a
     simp only at hdef hsz hh
     subst hdef
     have hrun:=d04 (P:=P) (w:=w) (tmps:=tmps) (ds:=[]) (o:={ dst:=some d,op:= .alloc (tyOf t),type:=ty,pos,after,guard:=none }) rfl hti hz
     have hgrow:=s01 w (.cells zv.cells.toList.toArray (tyOf t))
     have hasz:=s02 w (.cells zv.cells.toList.toArray (tyOf t))
     have hq:=Qw.alloc w (.cells zv.cells.toList.toArray (tyOf t))
     have hF0:=x1i hB
     unfold wpOp
     simp only[hoi]
     rw[if_pos (by simp[Region.wanted])]
     refine .inl ?_
     unfold Oper.wp
     rw[hrun]
     simp only[Oper.upon]
     refine⟨ClR.ofQ hq,?_⟩
     have hBb:Base (w.alloc (.cells zv.cells.toList.toArray (tyOf t))) N F:=⟨hB.one,fun b hb=>by have:=hB.lt b hb; omega,fun b hb=>⟨(hB.nb b hb).1,by have:=(hB.nb b hb).2; omega⟩⟩
     have hHb:Hold (w.alloc (.cells zv.cells.toList.toArray (tyOf t))) N lc σ ((Act.mk tmps []).put (some d) (.pointer (some ⟨w.heap.size,0,none⟩))).tmps F fz:=by
      obtain⟨Ft,Fo,hle,ht,ho⟩:=u04 hgrow hB hh
      exact⟨Ft,Fo,hle,p01 d _ σ.tm Ft (f0r h.1) ht,ho⟩
     have hNb: ¬N w.heap.size:=fun hN=>by have:=(hB.nb _ hN).2; omega
     have hlen:post.length+1+ks.length=post.length+(k :: ks).length:=by simp only[List.length_cons]; omega
     show wpO P ops _ L (post.length+1+ks.length) _ _ _
     rw[hlen]
     refine u1t (w0:=w.alloc (.cells zv.cells.toList.toArray (tyOf t))) (F0:=F) (N0:=N) (lc0:=lc) (v:= .pointer (some ⟨w.heap.size,0,none⟩)) (d:=d) hil hsel ?_ (k :: ks) ⟨s.listed.setIfInBounds fl true,false,s.cl,s.fr⟩ _ σ _ hseg' (inv.set hj (w0b hj)) hall ⟨by rw[y0i],by rw[x06]; exact hsz,N,lc,F,hBb,hHb,Fr.refl _ _ _ _⟩ ⟨fun h=>(by cases h),fun hc=>?_⟩ ?_
     ·-- the block is claimed
      intro σ' a' w' hK hS inv' hO' hv
      obtain⟨hdef',hsz',N',lc',F',hB',hh',hFr'⟩:=hS
      obtain⟨tmps',ds'⟩:=a'
      simp only at hdef' hsz' hh' hv
      subst hdef'
      have hbsz:w.heap.size<w'.heap.size:=by have:=hFr'.size; omega
      have hF'0:F' w.heap.size=0:=by
       rcases Nat.eq_zero_or_pos (F' w.heap.size) with h | h
       ·exact h
       ·rcases hFr'.fp _ h with h | h <;> omega
      have hN'0: ¬N' w.heap.size:=fun h=>by
       rcases hFr'.nr _ h with h | h | h
       ·exact hNb h
       ·omega
       ·omega
      have hcell:w'.heap[w.heap.size]?=some (.cells zv.cells.toList.toArray (tyOf t) (0,0)):=(hFr'.keep _ (by omega) hF0).trans (s0y w _)
      have hzl:zv.cells.toList.length=e:=by have:=y01 (hzr w' N'); omega
      have h1:=i05 (σ:=σ') hF'0 hh'
      have hO2:repO w' N' (some (w.heap.size,1)) t e [z] (add (Am.one w.heap.size) fz):=by
       refine .inr ⟨w.heap.size,1,zv.cells.toList.toArray,fz,rfl,hcell,by simp,⟨by simp[maxLen],fun _=>rfl⟩,by simpa using hzl,?_,rfl⟩
       simp only[List.length_singleton,Nat.one_mul]
       rw[List.take_of_length_le (by simpa using Nat.le_of_eq hzl)]
       simp only[z09]
       exact⟨zv.cells.toList,[],fz,fz,by simp,hl,(z0g _).symm,hzr w' N',rfl,rfl⟩
      have h2:Hold w' N' lc' σ' tmps' (own F' w.heap.size) (add fz (add (Am.one w.heap.size) fz)):=by
       have:add fz (add (Am.one w.heap.size) fz)=add (Am.one w.heap.size) fz:=v0c _
       rw[this]; exact h1
      have h3:=n0i (d:=d) hO2 h2
      have hvr:repA w' N' (fun i=>if i=d then some (w.heap.size,1) else lc' i) (.one (.pt e d [] 0 0)) (.pointer (some ⟨w.heap.size,0,none⟩)) fz:=by
       simp only[repA,repT,resF,if_true]
       exact⟨trivial,w.heap.size,1,rfl,by simp⟩
      have h4:=y0j (ds:=[]) (d:=some d) (a:= .one (.pt e d [] 0 0)) (G1:=fz) (by rw[z0g]; exact h3) hvr (fun k hk=>by injection hk with hk; rw[hsz',← hk]; exact hdn.1)
      have hput:((Act.mk tmps' []).put (some d) (.pointer (some ⟨w.heap.size,0,none⟩))).tmps=tmps':=by
       have hdl:d<tmps'.size:=by rw[hsz']; exact hdn.1
       rw[Array.getD_eq_getD_getElem?,Array.getElem?_eq_getElem hdl,Option.getD_some] at hv
       simp only[Act.put]
       rw[← hv]
       apply Array.ext
       ·simp
       ·intro i h1 h2
        rw[Array.getElem_setIfInBounds]
        split
        ·rename_i he; subst he; rfl
        ·rfl
      rw[hput] at h4
      have hS2:SR w0 F0 N0 lc0 n (setT { tm:=w0u (fun id _=>id == d) σ'.tm,ob:=put σ'.ob d ⟨t,e,[z]⟩ } (some d) (.one (.pt e d [] 0 0))) ⟨tmps',[]⟩ w':=by
       refine⟨rfl,hsz',N',_,own F' w.heap.size,⟨fun b=>?_,fun b hb=>?_,fun b hb=>?_⟩,h4,hFr.trans ?_⟩
       ·unfold own; split
        ·exact Nat.le_refl _
        ·exact hB'.one b
       ·unfold own at hb; split at hb
        ·omega
        ·exact hB'.lt b hb
       ·have:=hB'.nb b hb
        unfold own
        rw[if_neg (fun h=>hN'0 (by rw[← h]; exact hb))]
        exact this
       ·refine⟨hFr'.os.trans hq.os,hFr'.tape.trans hq.tape,hFr'.output.trans hq.out,by omega,fun b hb h0=>(hFr'.keep b (by omega) h0).trans (hgrow b hb),fun b hb=>?_,hFr'.nn,fun b hb=>?_,fun id hid=>?_⟩
        ·unfold own at hb; split at hb
         ·right; omega
         ·rcases hFr'.fp b hb with h | h
          ·exact .inl h
          ·right; omega
        ·rcases hFr'.nr b hb with h | h | h
         ·exact .inl h
         ·exact .inr (.inl h)
         ·right; right; omega
        ·have h1000:d<1000:=hdn.2
         rw[if_neg (fun he:id=d=>absurd (he ▸ hid:1000≤d) (by omega))]; exact hFr'.lcs id hid
      have hK':y0y P (y0g is post) K (setT { tm:=w0u (fun id _=>id == d) σ'.tm,ob:=put σ'.ob d ⟨t,e,[z]⟩ } (some d) (.one (.pt e d [] 0 0))):=by
       simp only[y0g,hfl,y0y,iwp] at hK
       rw[v0e rfl] at hK
       exact hK
      exact j0j hil hsel hfin post s1 _ _ w' hseg inv' hK' hS2 hO'
     ·obtain⟨h1,h2⟩:=hO.cl hc
      refine⟨h1.trans hq,fun t ht b hb=>?_⟩
      by_cases htd:t=d
      ·subst htd
       have:=l06 hb
       simp only[Value.ownBlock] at this
       first | cases this | (injection this with this; have:=h1.size; omega)
      ·rw[w0q (by simpa using fun h=>htd h.symm)] at hb
       exact h2 t ht b hb
     ·simp only[Act.put]
      rw[Array.getD_eq_getD_getElem?,Array.getElem?_setIfInBounds]
      simp[hsz,hdn.1]
theorem y1r {id:Nat} {ops:Array Oper} {is:List Ins} {ks:List Nat} {Qx:Exit→Act→World→Prop} {K:St→Prop} {a:Act} {w:World} (hmo:P.follows .mixedOrders=true) (hil:InsL P n ops ops.toList is) (hb:j0h ops is ks=true)
 (h:y0y P (y0g is ks) K σ) (hs:SR w0 F0 N0 lc0 n σ a w) (hfin: ∀σ' a' w',K σ'→SR w0 F0 N0 lc0 n σ' a' w'→Qx .normal a' w'):(Code.region id ops true).wp P Qx a w:=by
 simp only[j0h,Bool.and_eq_true] at hb
 obtain⟨⟨hsel,hlen⟩,hb⟩:=hb
 have hlen:ops.size=ks.length:=by simpa using (by simpa using hlen:ks.length=ops.size).symm
 have hsr:SR w0 F0 N0 lc0 n σ a { w with drawn:=w.drawn+1 }:=by
  obtain⟨h1,h2,N,lc,F,hB,hh,hFr⟩:=hs
  exact q0f h1 h2 hB hh hFr ⟨fun _ _=>rfl,Nat.le_refl _,rfl,rfl,rfl⟩
 have inv0:HeadInv .any ops ops.size (Array.replicate ops.size false):=
  ⟨by simp,fun j oj _ hl=>(by rw[getD_replicate_false] at hl; cases hl),fun t ht ht'=>by omega⟩
 refine wp_region_any hmo ?_
 have hmain:=j0j (L:=fun a' w'=>Qx .normal a' w') (wR:={ w with drawn:=w.drawn+1 }) hil hsel (fun σ' a' w' k1 k2=>hfin σ' a' w' k1 k2) ks (ord0 ops) a σ _ hb inv0 h hsr ⟨fun _=>rfl,fun _=>⟨Qw.refl _,fun t ht=>by simp[ord0] at ht⟩⟩
 have:=s04 (Q:=Qx) (fun a' w' hL=>hL) _ _ _ _ hmain
 rw[← hlen] at this
 exact this
theorem x1t {id:Nat} {ops:Array Oper} {is:List Ins} {ps ap ks cs:List Nat} {Qx:Exit→Act→World→Prop} {K:St→Prop} {a:Act} {w:World} (hmo:P.follows .mixedOrders=true) (hil:InsL P n ops ops.toList is) (hb:x1q ops is ps ap ks cs=true)
 (h:apwp P ps cs (y0g is ks) K σ) (hs:SR w0 F0 N0 lc0 n σ a w) (hfin: ∀σ' a' w',K σ'→SR w0 F0 N0 lc0 n σ' a' w'→Qx .normal a' w'):(Code.region id ops true).wp P Qx a w:=by
 simp only[x1q,Bool.and_eq_true] at hb
 obtain⟨⟨⟨⟨⟨hsel,hne⟩,hlen⟩,hpd⟩,hap⟩,hb⟩:=hb
 have hlen:ops.size=ks.length:=by simpa using (by simpa using hlen:ks.length=ops.size).symm
 have hsr:SR w0 F0 N0 lc0 n σ a { w with drawn:=w.drawn+1 }:=by
  obtain⟨h1,h2,N,lc,F,hB,hh,hFr⟩:=hs
  exact q0f h1 h2 hB hh hFr ⟨fun _ _=>rfl,Nat.le_refl _,rfl,rfl,rfl⟩
 have inv0:HeadInv .any ops ops.size (Array.replicate ops.size false):=
  ⟨by simp,fun j oj _ hl=>(by rw[getD_replicate_false] at hl; cases hl),fun t ht ht'=>by omega⟩
 refine wp_region_any hmo ?_
 have hmain:=r13 (L:=fun a' w'=>Qx .normal a' w') (wR:={ w with drawn:=w.drawn+1 }) hil hsel (by intro e; rw[e] at hne; cases hne) (fun x hx p hp=>by simpa using List.all_eq_true.1 (List.all_eq_true.1 hpd x hx) p hp) (fun j hj=>by
  have:=List.all_eq_true.1 hap j hj
  cases hx:is[j]? with
  | none=>rw[hx] at this; simp at this
  | some x=>
    rw[hx] at this
    simp only[Option.map_some,Option.getD_some,Bool.and_eq_true,Option.isNone_iff_eq_none] at this
    exact⟨x,rfl,this.1,this.2⟩) (fun σ' a' w' k1 k2=>hfin σ' a' w' k1 k2) ks cs (ord0 ops) a σ _ hb inv0 h hsr ⟨fun _=>rfl,fun _=>⟨Qw.refl _,fun t ht=>by simp[ord0] at ht⟩⟩ rfl
 have:=s04 (Q:=Qx) (fun a' w' hL=>hL) _ _ _ _ hmain
 rw[← hlen] at this
 exact this
theorem x1b {id k1 k2:Nat} {ops:Array Oper} {is:List Ins} {r1 r2 pre:List Nat} {Qx:Exit→Act→World→Prop} {K:St→Prop} {a:Act} {w:World} (hmo:P.follows .mixedOrders=true) (hil:InsL P n ops ops.toList is) (hb:e0w ops is k1 k2 r1 r2 pre=true)
 (h:y0y P (y0g is pre) (fun σ'=>y0y P (y0g is (k1 :: r1)) K σ'∧y0y P (y0g is (k2 :: r2)) K σ') σ) (hs:SR w0 F0 N0 lc0 n σ a w) (hfin: ∀σ' a' w',K σ'→SR w0 F0 N0 lc0 n σ' a' w'→Qx .normal a' w'):(Code.region id ops true).wp P Qx a w:=by
 simp only[e0w,Bool.and_eq_true,beq_iff_eq] at hb
 obtain⟨⟨⟨hsel,hlen⟩,hl2⟩,hb⟩:=hb
 have hlen:ops.size=r1.length+1+pre.length:=by omega
 have hsr:SR w0 F0 N0 lc0 n σ a { w with drawn:=w.drawn+1 }:=by
  obtain⟨h1,h2,N,lc,F,hB,hh,hFr⟩:=hs
  exact q0f h1 h2 hB hh hFr ⟨fun _ _=>rfl,Nat.le_refl _,rfl,rfl,rfl⟩
 have inv0:HeadInv .any ops ops.size (Array.replicate ops.size false):=
  ⟨by simp,fun j oj _ hl=>(by rw[getD_replicate_false] at hl; cases hl),fun t ht ht'=>by omega⟩
 refine wp_region_any hmo ?_
 have hmain:=o1j (L:=fun a' w'=>Qx .normal a' w') (wR:={ w with drawn:=w.drawn+1 }) hil hsel hl2 (fun σ' a' w' k1 k2=>hfin σ' a' w' k1 k2) pre (ord0 ops) a σ _ hb inv0 h hsr ⟨fun _=>rfl,fun _=>⟨Qw.refl _,fun t ht=>by simp[ord0] at ht⟩⟩
 have:=s04 (Q:=Qx) (fun a' w' hL=>hL) _ _ _ _ hmain
 rw[← hlen] at this
 exact this
theorem z1t {id:Nat} {ops:Array Oper} {is:List Ins} {fl d:Nat} {pre post:List Nat} {Qx:Exit→Act→World→Prop} {K:St→Prop} {a:Act} {w:World} (hmo:P.follows .mixedOrders=true) (hil:InsL P n ops ops.toList is) (hb:g0p ops is fl d pre post=true)
 (h:m0a P d (y0g is pre) (y0y P (y0g is (fl :: post)) K) σ) (hs:SR w0 F0 N0 lc0 n σ a w) (hfin: ∀σ' a' w',K σ'→SR w0 F0 N0 lc0 n σ' a' w'→Qx .normal a' w'):(Code.region id ops true).wp P Qx a w:=by
 simp only[g0p,Bool.and_eq_true] at hb
 obtain⟨⟨⟨hsel,hlen⟩,hfl⟩,hb⟩:=hb
 have hlen:ops.size=post.length+1+pre.length:=by have:pre.length+1+post.length=ops.size:=by simpa using hlen
                                                 omega
 split at hfl
 case h_2=>cases hfl
 rename_i d' t e z hfl'
 have hdd:d'=d:=by simpa using hfl
 subst hdd
 have hsr:SR w0 F0 N0 lc0 n σ a { w with drawn:=w.drawn+1 }:=by
  obtain⟨h1,h2,N,lc,F,hB,hh,hFr⟩:=hs
  exact q0f h1 h2 hB hh hFr ⟨fun _ _=>rfl,Nat.le_refl _,rfl,rfl,rfl⟩
 have inv0:HeadInv .any ops ops.size (Array.replicate ops.size false):=
  ⟨by simp,fun j oj _ hl=>(by rw[getD_replicate_false] at hl; cases hl),fun t ht ht'=>by omega⟩
 refine wp_region_any hmo ?_
 have hmain:=p1w (L:=fun a' w'=>Qx .normal a' w') (wR:={ w with drawn:=w.drawn+1 }) hil hsel hfl' (fun σ' a' w' k1 k2=>hfin σ' a' w' k1 k2) pre (ord0 ops) a σ _ hb inv0 h hsr ⟨fun _=>rfl,fun _=>⟨Qw.refl _,fun t ht=>by simp[ord0] at ht⟩⟩
 have:=s04 (Q:=Qx) (fun a' w' hL=>hL) _ _ _ _ hmain
 rw[← hlen] at this
 exact this
theorem z1v {id m:Nat} {ops:Array Oper} {is:List Ins} {qs gs:List Nat} {Qx:Exit→Act→World→Prop} {K:St→Prop} {a:Act} {w:World} (hmo:P.follows .mixedOrders=true) (hil:InsL P n ops ops.toList is) (hb:grpB ops is m qs gs=true)
 (h:qvp (y0g is qs) (fun σ0=>gwp P (dsOf (y0g is gs)) (y0g is gs) [] (y0y P (is.drop m) K) σ0) σ) (hs:SR w0 F0 N0 lc0 n σ a w) (hfin: ∀σ' a' w',K σ'→SR w0 F0 N0 lc0 n σ' a' w'→Qx .normal a' w'):(Code.region id ops true).wp P Qx a w:=by
 simp only[grpB,Bool.and_eq_true,decide_eq_true_eq] at hb
 obtain⟨⟨⟨⟨⟨⟨⟨⟨⟨⟨⟨⟨⟨⟨⟨⟨hlen,hlen2⟩,hsel⟩,hm⟩,hsk⟩,hch⟩,hho⟩,hxor⟩,hgm⟩,hgn⟩,hcalls⟩,haft⟩,hpl⟩,hdl⟩,hdn⟩,htx⟩,hseq⟩:=hb
 obtain⟨h1,h2,N,lc,F,hB,hh,hFr⟩:=hs
 have hw1:Qw w { w with drawn:=w.drawn+1 }:=⟨fun _ _=>rfl,Nat.le_refl _,rfl,rfl,rfl⟩
 have hB1:Base { w with drawn:=w.drawn+1 } N F:=⟨hB.one,hB.lt,hB.nb⟩
 have hh1:Hold { w with drawn:=w.drawn+1 } N lc σ a.tmps F fz:=u04 hw1.blk hB hh
 have hFr1:Fr w0 F0 N0 lc0 { w with drawn:=w.drawn+1 } F N lc:=hFr.trans ⟨rfl,rfl,rfl,Nat.le_refl _,fun _ _ _=>rfl,fun _ h=> .inl h,fun _ h=>h,fun _ h=> .inl h,fun _ _=>rfl⟩
 obtain⟨hl1,hl2⟩:=r0m m hil
 have hsz:ops.toList.length=ops.size:=by simp
 have inv0:HeadInv .any ops m (Array.replicate ops.size false):=
  ⟨by simp,fun j oj _ hl=>(by rw[getD_replicate_false] at hl; cases hl),fun t _ ht=>getD_in (by simpa using ht) (getD_replicate_false _ _)⟩
 let L:Array Bool→Act→World→Prop:=fun listed a' w'=>Region.seqB .any ops (ops.size - m) m listed=true∧∃σ',y0y P (is.drop m) K σ'∧SR w0 F0 N0 lc0 n σ' a' w'
 refine wp_region_any hmo ?_
 have hmain:wpG P ops (Qw { w with drawn:=w.drawn+1 }) m L (gs.length+qs.length) (Array.replicate ops.size false) a { w with drawn:=w.drawn+1 }:=by
  refine a00 (L:=L) hB1 hil hsel hsk hch hm (fun listed a w hL=>seqB_ready hL.1) qs _ a σ hho inv0 h h1 h2 hh1 fun a' σ0 hg k1 k2 k3 inv1=>?_
  have hxj: ∀j,j<m→(qs.contains j != gs.contains j)=true:=fun j hj=>List.all_eq_true.1 hxor j (by simpa using hj)
  have hgsm: ∀i∈gs,i<m:=fun i hi=>by simpa using List.all_eq_true.1 hgm i hi
  obtain⟨items,hid,hok,hK⟩:=g0r (is:=is) (fun i hi=>by
   have hc:=List.all_eq_true.1 hcalls i hi
   cases hx:is[i]? with
   | none=>rw[hx] at hc; simp at hc
   | some x=>
     rw[hx] at hc
     have hmem:=m0x hi hx
     refine⟨x,rfl,by simpa using hc,fun d hd=>h08 hmem hd,fun d f xs hcl y hy t ht=>?_⟩
     have:=List.all_eq_true.1 htx x hmem
     rw[hcl] at this
     simp only[Option.map_some,Option.getD_some] at this
     have:=List.all_eq_true.1 (List.all_eq_true.1 this y hy) t ht
     simpa using this) hg
  have hgl:items.length=gs.length:=by rw[← hid,List.length_map]
  rw[← hgl]
  have hL': ∀(listed:Array Bool) (a:Act) (w:World) (done:List GI),HeadInv .any ops m listed→(∀j,j<m→listed.getD j true=true)→List.Perm done items→SR w0 F0 N0 lc0 n ⟨done.map GI.e ++ delL (dsOf (y0g is gs)) σ0.tm,σ0.ob⟩ a w→L listed a w:=by
   intro listed a w done inv hall hp hsr
   refine⟨?_,_,hK,?_⟩
   ·have:listed=k0t (List.range m) (Array.replicate ops.size false):=by
     apply f10
     ·rw[i00,inv.size]; simp
     ·intro j hj
      rw[inv.size] at hj
      rw[r0i _ _ _ _ (by simpa using hj)]
      by_cases hjm:j<m
      ·rw[hall j hjm,if_pos (by simpa using hjm)]
      ·rw[inv.tail j (by omega) hj,if_neg (by simpa using hjm)]
       simp[Array.getD_eq_getD_getElem?,hj]
    rw[this]; exact hseq
   ·refine o1q ?_ hsr
    simp only[List.nil_append]
    exact (hp.map GI.e).append_right _
  have hsr0:SR w0 F0 N0 lc0 n ⟨([]:List GI).map GI.e ++ delL (dsOf (y0g is gs)) σ0.tm,σ0.ob⟩ a' { w with drawn:=w.drawn+1 }:=by
   simp only[List.map_nil,List.nil_append]
   obtain⟨Ft,Fo,hle,ht,ho⟩:=k3
   obtain⟨Ft2,hle2,ht2⟩:=j0u (dsOf (y0g is gs)) ht
   exact⟨k1,k2,N,lc,F,hB1,⟨Ft2,Fo,fun b=>by have:=hle b; have:=hle2 b; omega,ht2,ho⟩,hFr1⟩
  refine r1k (σ0:=σ0) (dl:=dsOf (y0g is gs)) (items:=items) (qs:=qs) (w0:=w0) (F0:=F0) (N0:=N0) (lc0:=lc0) hil hsk hch hm (fun g hg o ho e he hbd=>?_) hL' items.length items [] _ a' _ rfl (by simp) (by simpa using hok) ?_ (by rw[hid]; exact hgn) (fun g hg=>?_) (fun j hj hju=>?_) (fun q hq=>?_) inv1 (Qw.refl _) hsr0
  ·have hgi:g.idx∈gs:=by rw[← hid]; exact List.mem_map_of_mem hg
   have:=List.all_eq_true.1 haft g.idx hgi
   rw[ho] at this
   simp only[Option.map_some,Option.getD_some] at this
   have:=Array.all_eq_true'.1 this e he
   rw[hbd] at this
   simpa using this
  ·rw[List.nil_append,u13 hok,hid]; exact hdn
  ·have hgi:g.idx∈gs:=by rw[← hid]; exact List.mem_map_of_mem hg
   have hlt:=hgsm _ hgi
   refine⟨hlt,?_⟩
   rw[r0i _ _ _ _ (by simp; omega)]
   have hx:=hxj _ hlt
   have hnq:g.idx ∉ qs:=fun hq=>by
    have e1:qs.contains g.idx=true:=by simpa using hq
    have e2:gs.contains g.idx=true:=by simpa using hgi
    rw[e1,e2] at hx; cases hx
   rw[if_neg hnq]
   have hlt2:g.idx<ops.size:=by omega
   simp[Array.getD_eq_getD_getElem?,hlt2]
  ·rw[r0i _ _ _ _ (by simp; omega)] at hju
   have hnq:j ∉ qs:=fun hq=>by rw[if_pos hq] at hju; cases hju
   have hx:=hxj j hj
   have e1:qs.contains j=false:=by simpa using hnq
   rw[e1] at hx
   have hjg:j∈gs:=by simpa using hx
   rw[← hid] at hjg
   obtain⟨g,hg,rfl⟩:=List.mem_map.1 hjg
   exact⟨g,hg,rfl⟩
  ·have:=f0a hho q hq
   rw[r0i _ _ _ _ (by simp; omega),if_pos hq]
 rw[hlen2] at hmain
 have:=o09 (Q:=Qx) (g:=ops.size - m) (fun listed a' w' hL=>by
  have hd:(ops.toList.drop m).length=ops.size - m:=by simp
  obtain⟨hsq,σ',hr,hsr⟩:=hL
  rw[← hd]
  exact wpAny_of_seq (ops.toList.drop m) m listed a' w' (fun j=>by simp) (by rw[hd]; exact hsq) (p0u hl2 hr hsr hfin)) _ _ _ _ hmain
 rwa [show m+(ops.size - m)=ops.size by omega] at this
theorem f14 {c:Code} {k:K} (hc:CK P n c k): ∀{Q:Ex→St→Prop} {σ:St} {a:Act} {w:World},awp P k Q σ→SR w0 F0 N0 lc0 n σ a w→c.wp P (Post w0 F0 N0 lc0 n Q) a w:=by
 induction hc with
 | skip=>intro Q σ a w h hs; exact wp_skip ⟨.n,σ,rfl,h,hs⟩
 | bad=>intro Q σ a w h hs; exact h.elim
 | seq _ _ ih1 ih2=>
   intro Q σ a w h hs
   refine wp_seq (wp_mono (ih1 h hs) fun e a' w' ⟨x,σ',hx,hq,hs'⟩=>?_)
   cases e with
   | normal=>
     injection hx with hx
     subst hx
     exact ih2 hq hs'
   | exit i=>
     injection hx with hx
     subst hx
     exact⟨.x i,σ',rfl,hq,hs'⟩
   | ret=>
     injection hx with hx
     subst hx
     exact⟨.r,σ',rfl,hq,hs'⟩
   | _=>cases hx
 | reg hl=>
   intro Q σ a w h hs
   exact wp_region_list (p0u hl h (u0q _ hs) fun σ' a' w' hq hs'=>⟨.n,σ',rfl,hq,hs'⟩)
 | @drw id ops keep m is hl hm hcase=>
   intro Q σ a w h hs
   simp only[awp] at h
   obtain⟨h1,h2,N,lc,F,hB,hh,hFr⟩:=u0q keep hs
   have hw1:Qw w { w with drawn:=w.drawn+1 }:=⟨fun _ _=>rfl,Nat.le_refl _,rfl,rfl,rfl⟩
   have hB1:Base { w with drawn:=w.drawn+1 } N F:=⟨hB.one,hB.lt,hB.nb⟩
   have hh1:Hold { w with drawn:=w.drawn+1 } N lc (u0p keep σ) a.tmps F fz:=u04 hw1.blk hB hh
   rcases hcase with⟨hB2,hle⟩ | hB2 | ⟨rfl,m',hB2⟩
   rotate_left
   rotate_left
   ·exact y1n hm hl hB2 (by simpa [qwp] using h) ⟨h1,h2,N,lc,F,hB,hh,hFr⟩ fun σ' a' w' hq hs'=>⟨.n,σ',rfl,hq,hs'⟩
   ·rw[List.take_of_length_le hle,List.drop_of_length_le hle] at h
    exact wp_region_quiet (C:=Qw { w with drawn:=w.drawn+1 }) hm hB2 (Qw.refl _) (t12 hB1 hl h h1 h2 hh1 fun a' σ' k1 k2 k3 k4 w' hw'=>⟨.n,σ',rfl,k1,q0f k2 k3 hB1 k4 (hFr.trans ⟨rfl,rfl,rfl,Nat.le_refl _,fun _ _ _=>rfl,fun _ h=> .inl h,fun _ h=>h,fun _ h=> .inl h,fun _ _=>rfl⟩) hw'⟩)
   ·obtain⟨hl1,hl2⟩:=r0m m hl
    exact o0i (C:=Qw { w with drawn:=w.drawn+1 }) hm hB2 (Qw.refl _) (t12 hB1 hl1 h h1 h2 hh1 fun a' σ' k1 k2 k3 k4 w' hw'=>
     p0u hl2 k1 (q0f k2 k3 hB1 k4 (hFr.trans ⟨rfl,rfl,rfl,Nat.le_refl _,fun _ _ _=>rfl,fun _ h=> .inl h,fun _ h=>h,fun _ h=> .inl h,fun _ _=>rfl⟩) hw') fun σ' a' w' hq hs'=>⟨.n,σ',rfl,hq,hs'⟩)
 | @ord id ops keep ks is hl hm hb=>
   intro Q σ a w h hs
   simp only[awp] at h
   exact y1r hm hl hb (by simpa [qwp] using h) (u0q keep hs) fun σ' a' w' hq hs'=>⟨.n,σ',rfl,hq,hs'⟩
 | @flt id ops keep fl d pre post is hl hm hb=>
   intro Q σ a w h hs
   exact z1t hm hl hb h (u0q keep hs) fun σ' a' w' hq hs'=>⟨.n,σ',rfl,hq,hs'⟩
 | @two id ops keep k1 k2 r1 r2 pre is hl hm hb=>
   intro Q σ a w h hs
   exact x1b hm hl hb h (u0q keep hs) fun σ' a' w' hq hs'=>⟨.n,σ',rfl,hq,hs'⟩
 | @apd id ops keep ps ap ks cs is hl hm hb=>
   intro Q σ a w h hs
   exact x1t hm hl hb h (u0q keep hs) fun σ' a' w' hq hs'=>⟨.n,σ',rfl,hq,hs'⟩
 | @grp id ops keep m qs gs is hl hm hb=>
   intro Q σ a w h hs
   simp only[awp] at h
   exact z1v hm hl hb h (u0q keep hs) fun σ' a' w' hq hs'=>⟨.n,σ',rfl,hq,hs'⟩
 | @cond o x a0 b0 a' b' hx _ _ ih1 ih2=>
   intro Q σ a w h hs
   simp only[awp] at h
   split at h
   case h_2=>exact h.elim
   rename_i t hev
   have hv:a.eval o = .bool t:=by
    obtain⟨h1,h2,N,lc,F,hB,hh,hFr⟩:=hs
    obtain⟨tmps,ds⟩:=a
    obtain⟨G1,hr,_⟩:=y0r (ds:=ds) hx hev hh
    exact hr.1
   refine wp_cond hv ?_
   cases t with
   | true=>exact ih1 (by simpa using h) hs
   | false=>exact ih2 (by simpa using h) hs
 | @block id c k _ ih=>
   intro Q σ a w h hs
   refine wp_block (wp_mono (ih h hs) fun e a' w' ⟨x,σ',hx,hq,hs'⟩=>?_)
   cases e with
   | normal=>
     injection hx with hx
     subst hx
     exact⟨.n,σ',rfl,hq,hs'⟩
   | exit i=>
     injection hx with hx
     subst hx
     simp only[Exit.inBlock]
     simp only at hq
     split
     ·rename_i hi; rw[if_pos hi] at hq; exact⟨.n,σ',rfl,hq,hs'⟩
     ·rename_i hi; rw[if_neg hi] at hq; exact⟨.x i,σ',rfl,hq,hs'⟩
   | ret=>
     injection hx with hx
     subst hx
     exact⟨.r,σ',rfl,hq,hs'⟩
   | _=>cases hx
 | @loop keep c k _ ih=>
   intro Q σ a w h hs
   obtain⟨J,m,hJ,hround⟩:=h
   refine b05 (fun n' a' w'=>∃σ',J n' σ'∧SR w0 F0 N0 lc0 n σ' a' w') (fun n' a' w' ⟨σ',h1,h2⟩=>?_) ⟨u0p keep σ,hJ,u0q _ hs⟩
   refine wp_mono (ih (hround n' σ' h1) h2) fun e a2 w2 ⟨x,σ2,hx,hq,hs2⟩=>?_
   cases e with
   | normal=>
     injection hx with hx
     subst hx
     obtain⟨m',hm,hJ'⟩:=hq
     exact⟨m',hm,u0p keep σ2,hJ',u0q _ hs2⟩
   | exit i=>
     injection hx with hx
     subst hx
     exact⟨.x i,σ2,rfl,hq,hs2⟩
   | ret=>
     injection hx with hx
     subst hx
     exact⟨.r,σ2,rfl,hq,hs2⟩
   | _=>cases hx
 | exit=>intro Q σ a w h hs; exact wp_exit ⟨_,σ,rfl,h,hs⟩
 | ret=>intro Q σ a w h hs; exact wp_ret ⟨.r,σ,rfl,h,hs⟩
end
def p0c:Nat→List A→St→St
 | _,[],σ=>σ
 | i,a :: as,σ=>p0c (i+1) as (c0e i a σ)
def o0b (args:List A) (H:List (Nat×Obj)):St:=p0c 0 args { tm:=[],ob:=H }
inductive RV where
 | t (t:Nat)
 | c (t n:Nat) (ag:Bool)
 deriving Inhabited
def e0e (σ:St):RV→Option ((Bool×List C)×St)
 | .t t=>match v06 σ (.t t) with
   | some (.one c,σ1)=>match n06 false σ1 c with
     | some (c',σ2)=>some ((false,[c']),σ2)
     | none=>none
   | some (.agg cs,σ1)=>match u0h false σ1 cs with
     | some (cs',σ2)=>some ((true,cs'),σ2)
     | none=>none
   | _=>none
 | .c t n ag=>match look σ.tm t with
   | some (.one (.pt e id [] 0 0))=>if id<1000 then
      match look σ.ob id with
      | some o=>match o.xs with
        | [row]=>if o.e=e∧row.length=n∧row.all C.plain=true then some ((ag,row),{ σ with ob:=del σ.ob id }) else none
        | _=>none
      | none=>none
     else none
   | _=>none
def p0z (σ:St):List RV→Option (List (Bool×List C)×St)
 | []=>some ([],σ)
 | r :: rs=>match e0e σ r with
   | some (x,σ1)=>match p0z σ1 rs with
     | some (xs,σ2)=>some (x :: xs,σ2)
     | none=>none
   | none=>none
def h0h:List (Bool×List C)→A
 | [(ag,cs)]=>mkA ag cs
 | xs=> .tup xs
def RVOf (P:Program):RV→ResultVar→Prop
 | .t t,.tmp t'=>t=t'
 | .c t n ag,.cell a ty=>t=a∧s00 P ty n∧z1i P ty ag∧(ag=false→n=1)
 | _,_=>False
def RL (P:Program):List RV→List ResultVar→Prop
 | [],[]=>True
 | x :: xs,o :: os=>RVOf P x o∧RL P xs os
 | _,_=>False
end Go.Am
