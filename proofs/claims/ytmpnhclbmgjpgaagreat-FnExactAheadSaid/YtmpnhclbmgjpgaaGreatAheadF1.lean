/- FRAMEWORK, text 1: what a tree says of memory, and how a tree is kept, frozen, looked up and laid. Proved once, for every program; no condition. -/
import Derived.WalkKit
import Derived.KernelRfl
set_option linter.unusedVariables false
set_option linter.unusedSimpArgs false
namespace Go.Am
abbrev Fp:=Nat→Nat
def fz:Fp:=fun _=>0
def one (b:Nat):Fp:=fun x=>if x=b then 1 else 0
def add (F G:Fp):Fp:=fun x=>F x+G x
inductive C where
 | int (k:IntKind) (n:Int)
 | bool (b:Bool)
 | str (s:ByteArray)
 | ar (own:Bool) (t e:Nat) (xs:List (List C))
 | vw (t e id:Nat) (st:List (Nat×Nat×Nat)) (lo n:Nat)
 | pt (e id:Nat) (st:List (Nat×Nat×Nat)) (i f:Nat)
 | ps (cs:List C)
 | np
 | fn (f:Nat) (cap:List C)
 | dead
 | op (t e:Nat) (cs:List C)
 deriving Inhabited
inductive A where
 | one (c:C)
 | agg (cs:List C)
 | tup (xs:List (Bool×List C))
 deriving Inhabited
structure Obj where
 t:Nat
 e:Nat
 xs:List (List C)
 deriving Inhabited
structure St where
 tm:List (Nat×A)
 ob:List (Nat×Obj)
 deriving Inhabited
abbrev Loc:=Nat→Option (Nat×Nat)
section
variable {α:Type}
def look:List (Nat×α)→Nat→Option α
 | [],_=>none
 | (k,a) :: r,d=>if k=d then some a else look r d
def del:List (Nat×α)→Nat→List (Nat×α)
 | [],_=>[]
 | (k,a) :: r,d=>if k=d then del r d else (k,a) :: del r d
def put (l:List (Nat×α)) (d:Nat) (a:α):List (Nat×α):=(d,a) :: del l d
theorem i0l (l:List (Nat×α)) (d:Nat):del (del l d) d=del l d:=by
 induction l with
 | nil=>rfl
 | cons x r ih=>
   obtain⟨k,a⟩:=x
   simp only[del]
   split
   ·exact ih
   ·rename_i h
    simp only[del,if_neg h,ih]
end
mutual
def repC (w:World) (N:Nat→Prop):C→Value→Fp→Prop
 | .int k n,g,F=>g = .int k n∧F=fz
 | .bool b,g,F=>g = .bool b∧F=fz
 | .str s,g,F=>g = .string s∧F=fz
 | .np,g,F=>g = .pointer none∧F=fz
 | .ar true t e xs,g,F=>
    (xs=[]∧∃a,g = .slice a 0 0)∨
    ∃b cap cur F',g = .slice (some ⟨b,0,none⟩) xs.length cap∧w.heap[b]?=some (.cells cur t (0,0))∧xs.length≤cap∧cap≤maxLen∧
     cur.size=cap*e∧z09 w N e xs (cur.toList.take (xs.length*e)) F'∧F=add (Am.one b) F'
 | .ar false _ e xs,g,F=>F=fz∧
    ∃a cap,g = .slice a xs.length cap∧xs.length≤cap∧cap≤maxLen∧
     (xs≠[]→∃b off cur ty fr,a=some ⟨b,off,none⟩∧N b∧w.heap[b]?=some (.cells cur ty fr)∧off+xs.length*e≤cur.size∧
       z09 w N e xs ((cur.toList.drop off).take (xs.length*e)) fz)
 | .vw ..,_,_=>False
 | .pt ..,_,_=>False
 | .ps _,_,_=>False
 | .fn f cap,g,F=>F=fz∧∃vs:List Value,g = .func (.func f) #[] vs.toArray∧z0d w N cap vs fz
 | .dead,g,F=>F=fz∧g.oneCell'=true
 | .op t e cs,g,F=>∃b cur F',g = .pointer (some ⟨b,0,none⟩)∧w.heap[b]?=some (.cells cur t (0,0))∧cs.length=e∧cur.size=e∧z0d w N cs (cur.toList.take e) F'∧F=add (Am.one b) F'
def z0d (w:World) (N:Nat→Prop):List C→List Value→Fp→Prop
 | [],vs,F=>vs=[]∧F=fz
 | c :: cs,vs,F=>∃v vs' F1 F2,vs=v :: vs'∧F=add F1 F2∧repC w N c v F1∧z0d w N cs vs' F2
def z09 (w:World) (N:Nat→Prop) (e:Nat):List (List C)→List Value→Fp→Prop
 | [],vs,F=>vs=[]∧F=fz
 | r :: rs,vs,F=>∃v1 v2 F1 F2,vs=v1 ++ v2∧r.length=e∧F=add F1 F2∧z0d w N r v1 F1∧z09 w N e rs v2 F2
end
end Go.Am
namespace Go.Am
theorem z0g (F:Fp):add F fz=F:=by funext x; simp[add,fz]
theorem v0c (F:Fp):add fz F=F:=by funext x; simp[add,fz]
theorem add_assoc (F G H:Fp):add (add F G) H=add F (add G H):=by funext x; simp[add,Nat.add_assoc]
theorem add_comm (F G:Fp):add F G=add G F:=by funext x; simp[add,Nat.add_comm]
theorem add_left_comm (F G H:Fp):add F (add G H)=add G (add F H):=by funext x; simp[add,Nat.add_left_comm]
section
variable {w w':World} {N N':Nat→Prop}
mutual
theorem w05: ∀(c:C) (g:Value) (F:Fp),(∀b,1≤F b∨N b→w'.heap[b]?=w.heap[b]?)→(∀b,N b→N' b)→repC w N c g F→repC w' N' c g F
 | .int ..,_,_,_,_,h=>h
 | .bool ..,_,_,_,_,h=>h
 | .str ..,_,_,_,_,h=>h
 | .np,_,_,_,_,h=>h
 | .vw ..,_,_,_,_,h=>h
 | .pt ..,_,_,_,_,h=>h
 | .ps ..,_,_,_,_,h=>h
 | .dead,_,_,_,_,h=>h
 | .fn f cap,g,F,hk,hN,h=>by
   simp only[repC] at h ⊢
   obtain⟨rfl,vs,hg,hr⟩:=h
   exact⟨rfl,vs,hg,y0n cap vs fz hk hN hr⟩
 | .op t e cs,g,F,hk,hN,h=>by
   simp only[repC] at h ⊢
   obtain⟨b,cur,F',hg,hb,hl,hs,hr,rfl⟩:=h
   exact⟨b,cur,F',hg,(hk b (.inl (by simp[add,one]))).trans hb,hl,hs,y0n cs _ F' (fun x hx=>hk x (hx.imp_left fun h=>by simp only[add]; omega)) hN hr,rfl⟩
 | .ar true t e xs,g,F,hk,hN,h=>by
   simp only[repC] at h ⊢
   rcases h with h | ⟨b,cap,cur,F',hg,hb,hl,hc,hs,hr,hF⟩
   ·exact .inl h
   ·subst hF
    refine .inr ⟨b,cap,cur,F',hg,?_,hl,hc,hs,x0a e xs _ F' (fun x hx=>hk x ?_) hN hr,rfl⟩
    ·rw[hk b (.inl (by simp[add,one]))]; exact hb
    ·rcases hx with hx | hx
     ·exact .inl (by simp only[add]; omega)
     ·exact .inr hx
 | .ar false t e xs,g,F,hk,hN,h=>by
   simp only[repC] at h ⊢
   obtain⟨rfl,a,cap,hg,hl,hc,hx⟩:=h
   refine⟨rfl,a,cap,hg,hl,hc,fun hne=>?_⟩
   obtain⟨b,off,cur,ty,fr,ha,hb,hh,ho,hr⟩:=hx hne
   exact⟨b,off,cur,ty,fr,ha,hN b hb,(hk b (.inr hb)).trans hh,ho,x0a e xs _ fz hk hN hr⟩
theorem y0n: ∀(cs:List C) (vs:List Value) (F:Fp),(∀b,1≤F b∨N b→w'.heap[b]?=w.heap[b]?)→(∀b,N b→N' b)→z0d w N cs vs F→z0d w' N' cs vs F
 | [],_,_,_,_,h=>h
 | c :: cs,vs,F,hk,hN,h=>by
   simp only[z0d] at h ⊢
   obtain⟨v,vs',F1,F2,hv,rfl,h1,h2⟩:=h
   exact⟨v,vs',F1,F2,hv,rfl,w05 c v F1 (fun b hb=>hk b (hb.imp_left fun h=>by simp only[add]; omega)) hN h1,
    y0n cs vs' F2 (fun b hb=>hk b (hb.imp_left fun h=>by simp only[add]; omega)) hN h2⟩
theorem x0a (e:Nat): ∀(xs:List (List C)) (vs:List Value) (F:Fp),(∀b,1≤F b∨N b→w'.heap[b]?=w.heap[b]?)→(∀b,N b→N' b)→z09 w N e xs vs F→z09 w' N' e xs vs F
 | [],_,_,_,_,h=>h
 | r :: rs,vs,F,hk,hN,h=>by
   simp only[z09] at h ⊢
   obtain⟨v1,v2,F1,F2,hv,hl,rfl,h1,h2⟩:=h
   exact⟨v1,v2,F1,F2,hv,hl,rfl,y0n r v1 F1 (fun b hb=>hk b (hb.imp_left fun h=>by simp only[add]; omega)) hN h1,
    x0a e rs v2 F2 (fun b hb=>hk b (hb.imp_left fun h=>by simp only[add]; omega)) hN h2⟩
end
end
mutual
def shr:C→C
 | .ar _ t e xs=> .ar false 0 e (z0i xs)
 | .op .. => .dead
 | c=>c
def y04:List C→List C
 | []=>[]
 | c :: cs=>shr c :: y04 cs
def z0i:List (List C)→List (List C)
 | []=>[]
 | r :: rs=>y04 r :: z0i rs
end
theorem o0n (cs:List C):y04 cs=cs.map shr:=by
 induction cs with
 | nil=>rfl
 | cons c cs ih=>simp[y04,ih]
theorem t0d (xs:List (List C)):z0i xs=xs.map y04:=by
 induction xs with
 | nil=>rfl
 | cons c cs ih=>simp[z0i,ih]
section
variable {w:World} {N N':Nat→Prop}
mutual
theorem u02: ∀(c:C) (g:Value) (F:Fp),(∀b,1≤F b→N' b)→(∀b,N b→N' b)→repC w N c g F→repC w N' (shr c) g fz
 | .int ..,_,_,_,_,h=>by simp only[repC,shr] at h ⊢; exact⟨h.1,by trivial⟩
 | .bool ..,_,_,_,_,h=>by simp only[repC,shr] at h ⊢; exact⟨h.1,by trivial⟩
 | .str ..,_,_,_,_,h=>by simp only[repC,shr] at h ⊢; exact⟨h.1,by trivial⟩
 | .np,_,_,_,_,h=>by simp only[repC,shr] at h ⊢; exact⟨h.1,by trivial⟩
 | .vw ..,_,_,_,_,h=>h.elim
 | .pt ..,_,_,_,_,h=>h.elim
 | .ps ..,_,_,_,_,h=>h.elim
 | .dead,_,_,_,_,h=>by simp only[repC,shr] at h ⊢; exact⟨by trivial,h.2⟩
 | .op t e cs,_,_,_,_,h=>by
   simp only[repC,shr] at h ⊢
   obtain⟨b,cur,F',rfl,_⟩:=h
   exact⟨by trivial,rfl⟩
 | .fn f cap,g,F,hF,hN,h=>by
   simp only[repC,shr] at h ⊢
   obtain⟨rfl,vs,hg,hr⟩:=h
   exact⟨by trivial,vs,hg,y0n cap vs fz (fun _ _=>rfl) hN hr⟩
 | .ar true t e xs,g,F,hF,hN,h=>by
   simp only[repC,shr] at h ⊢
   have hlen:(z0i xs).length=xs.length:=by simp[t0d]
   rw[hlen]
   rcases h with⟨rfl,a0,rfl⟩ | ⟨b,cap,cur,F',hg,hb,hl,hc,hs,hr,rfl⟩
   ·exact⟨by trivial,a0,0,rfl,by simp,by simp[maxLen],fun h=>by simp[z0i] at h⟩
   ·refine⟨by trivial,some ⟨b,0,none⟩,cap,hg,hl,hc,fun _=>⟨b,0,cur,t,(0,0),rfl,hF b (by simp[add,one]),hb,?_,?_⟩⟩
    ·rw[hs,Nat.zero_add]; exact Nat.mul_le_mul_right _ hl
    ·rw[List.drop_zero]
     exact t0b e xs _ F' (fun x hx=>hF x (by simp only[add]; omega)) hN hr
 | .ar false t e xs,g,F,hF,hN,h=>by
   simp only[repC,shr] at h ⊢
   have hlen:(z0i xs).length=xs.length:=by simp[t0d]
   rw[hlen]
   obtain⟨rfl,a,cap,hg,hl,hc,hx⟩:=h
   refine⟨by trivial,a,cap,hg,hl,hc,fun hne=>?_⟩
   have hne':xs≠[]:=fun h=>hne (by simp[h,z0i])
   obtain⟨b,off,cur,ty,fr,ha,hb,hh,ho,hr⟩:=hx hne'
   exact⟨b,off,cur,ty,fr,ha,hN b hb,hh,ho,t0b e xs _ fz (fun b hb=>by simp[fz] at hb) hN hr⟩
theorem s0b: ∀(cs:List C) (vs:List Value) (F:Fp),(∀b,1≤F b→N' b)→(∀b,N b→N' b)→z0d w N cs vs F→z0d w N' (y04 cs) vs fz
 | [],_,_,_,_,h=>by simp only[z0d,y04] at h ⊢; exact⟨h.1,by trivial⟩
 | c :: cs,vs,F,hF,hN,h=>by
   simp only[z0d,y04] at h ⊢
   obtain⟨v,vs',F1,F2,hv,rfl,h1,h2⟩:=h
   exact⟨v,vs',fz,fz,hv,(z0g _).symm,u02 c v F1 (fun b hb=>hF b (by simp only[add]; omega)) hN h1,
    s0b cs vs' F2 (fun b hb=>hF b (by simp only[add]; omega)) hN h2⟩
theorem t0b (e:Nat): ∀(xs:List (List C)) (vs:List Value) (F:Fp),(∀b,1≤F b→N' b)→(∀b,N b→N' b)→z09 w N e xs vs F→z09 w N' e (z0i xs) vs fz
 | [],_,_,_,_,h=>by simp only[z09,z0i] at h ⊢; exact⟨h.1,by trivial⟩
 | r :: rs,vs,F,hF,hN,h=>by
   simp only[z09,z0i] at h ⊢
   obtain⟨v1,v2,F1,F2,hv,hl,rfl,h1,h2⟩:=h
   exact⟨v1,v2,fz,fz,hv,by rw[o0n,List.length_map]; exact hl,(z0g _).symm,s0b r v1 F1 (fun b hb=>hF b (by simp only[add]; omega)) hN h1,
    t0b e rs v2 F2 (fun b hb=>hF b (by simp only[add]; omega)) hN h2⟩
end
end
end Go.Am
namespace Go.Am
def resF (w:World):Option (Nat×Nat)→List (Nat×Nat×Nat)→Option (Nat×Nat)
 | l,[]=>l
 | some (b,_),(e,i,f) :: r=>
   match w.cell? ⟨b,i*e+f,none⟩ with
   | some (.slice (some ⟨b2,0,none⟩) _ c2)=>resF w (if c2=0 then none else some (b2,c2)) r
   | some (.pointer (some ⟨b2,0,none⟩))=>resF w (some (b2,1)) r
   | _=>none
 | none,_ :: _=>none
mutual
def repT (w:World) (N:Nat→Prop) (lc:Loc):C→Value→Fp→Prop
 | .vw _ e id st lo n,g,F=>F=fz∧
    ((lo=0∧n=0∧∃a,g = .slice a 0 0)∨
     ∃b cap a,resF w (lc id) st=some (b,cap)∧g = .slice (some a) n (cap - lo)∧lo+n≤cap∧cap≤maxLen∧((lo=0∨lo<cap)→a=⟨b,lo*e,none⟩))
 | .pt e id st i f,g,F=>F=fz∧∃b cap,resF w (lc id) st=some (b,cap)∧g = .pointer (some ⟨b,i*e+f,none⟩)
 | .ps cs,g,F=>F=fz∧∃b off cur ty fr,g = .pointer (some ⟨b,off,none⟩)∧N b∧w.heap[b]?=some (.cells cur ty fr)∧off+cs.length≤cur.size∧
    z0m w N lc cs ((cur.toList.drop off).take cs.length) fz
 | .int k n,g,F=>repC w N (.int k n) g F
 | .bool b,g,F=>repC w N (.bool b) g F
 | .str s,g,F=>repC w N (.str s) g F
 | .ar o t e xs,g,F=>repC w N (.ar o t e xs) g F
 | .np,g,F=>repC w N .np g F
 | .fn f cap,g,F=>F=fz∧∃vs:List Value,g = .func (.func f) #[] vs.toArray∧z0m w N lc cap vs fz
 | .dead,_,F=>F=fz
 | .op t e cs,g,F=>repC w N (.op t e cs) g F
def z0m (w:World) (N:Nat→Prop) (lc:Loc):List C→List Value→Fp→Prop
 | [],vs,F=>vs=[]∧F=fz
 | c :: cs,vs,F=>∃v vs' F1 F2,vs=v :: vs'∧F=add F1 F2∧repT w N lc c v F1∧z0m w N lc cs vs' F2
end
def u0m (w:World) (N:Nat→Prop) (lc:Loc):List (Bool×List C)→List Value→Fp→Prop
 | [],gs,F=>gs=[]∧F=fz
 | (ag,cs) :: r,gs,F=>∃g gs' F1 F2,gs=g :: gs'∧F=add F1 F2∧
     (if ag then ∃vs:List Value,g = .agg vs.toArray∧z0m w N lc cs vs F1 else ∃c,cs=[c]∧repT w N lc c g F1)∧u0m w N lc r gs' F2
def repA (w:World) (N:Nat→Prop) (lc:Loc):A→Value→Fp→Prop
 | .one c,g,F=>repT w N lc c g F
 | .agg cs,g,F=>∃vs:List Value,g = .agg vs.toArray∧z0m w N lc cs vs F
 | .tup xs,g,F=>∃gs:List Value,g = .tuple gs.toArray∧u0m w N lc xs gs F
def x0u (w:World) (N:Nat→Prop) (lc:Loc) (tmps:Array Value):List (Nat×A)→Fp→Prop
 | [],F=>F=fz
 | (k,a) :: r,F=>∃F1 F2,F=add F1 F2∧repA w N lc a (tmps.getD k undef) F1∧x0u w N lc tmps r F2
def tyOf (t:Nat):Nat:=if t<1000000000 then t else t - 1000000000
def f1b (t cap:Nat):Prop:=cap≤maxLen∧(1000000000≤t→cap=1)
theorem p04 {t:Nat} (h:t<1000000000):tyOf t=t:=if_pos h
theorem g01 (t:Nat):tyOf (t+1000000000)=t:=by unfold tyOf; rw[if_neg (by omega)]; omega
theorem i0i {t cap:Nat} (h:t<1000000000) (hc:cap≤maxLen):f1b t cap:=⟨hc,fun h2=>by omega⟩
def repO (w:World) (N:Nat→Prop) (l:Option (Nat×Nat)) (t e:Nat) (xs:List (List C)) (F:Fp):Prop:=
 (l=none∧xs=[])∨
 ∃b cap cur F',l=some (b,cap)∧w.heap[b]?=some (.cells cur (tyOf t) (0,0))∧xs.length≤cap∧f1b t cap∧
  cur.size=cap*e∧z09 w N e xs (cur.toList.take (xs.length*e)) F'∧F=add (Am.one b) F'
def y03 (w:World) (N:Nat→Prop) (lc:Loc):List (Nat×Obj)→Fp→Prop
 | [],F=>F=fz
 | (id,o) :: r,F=>∃F1 F2,F=add F1 F2∧repO w N (lc id) o.t o.e o.xs F1∧y03 w N lc r F2
theorem e0d {w:World}: ∀r:List (Nat×Nat×Nat),resF w none r=none
 | []=>rfl
 | _ :: _=>rfl
theorem t1k {w:World} {b cap e i f:Nat} {r:List (Nat×Nat×Nat)} {a:Option Addr} (hc:w.cell? ⟨b,i*e+f,none⟩=some (.slice a 0 0)):resF w (some (b,cap)) ((e,i,f) :: r)=none:=by
 simp only[resF,hc]
 split
 ·rename_i h
  injection h with h
  injection h with _ _ h
  rw[← h]
  simp only[if_true]
  exact e0d r
 ·rename_i h
  cases h
 ·rfl
theorem t0o {w:World} {N:Nat→Prop} {t e:Nat} {xs:List (List C)} {g:Value} {F:Fp} (h:repC w N (.ar true t e xs) g F):(xs=[]∧∃a,g = .slice a 0 0)∨
 ∃b cap cur F',0<cap∧g = .slice (some ⟨b,0,none⟩) xs.length cap∧w.heap[b]?=some (.cells cur t (0,0))∧xs.length≤cap∧cap≤maxLen∧
    cur.size=cap*e∧z09 w N e xs (cur.toList.take (xs.length*e)) F'∧F=add (Am.one b) F':=by
 simp only[repC] at h
 rcases h with h | ⟨b,cap,cur,F',hg,hb,hl,r⟩
 ·exact .inl h
 ·by_cases hz:cap=0
  ·have:xs=[]:=List.eq_nil_of_length_eq_zero (by omega)
   subst this
   subst hz
   exact .inl ⟨rfl,_,hg⟩
  ·exact .inr ⟨b,cap,cur,F',by omega,hg,hb,hl,r⟩
structure Base (w:World) (N:Nat→Prop) (F:Fp):Prop where
 one: ∀b,F b≤1
 lt: ∀b,1≤F b→b<w.heap.size
 nb: ∀b,N b→F b=0∧b<w.heap.size
def Hold (w:World) (N:Nat→Prop) (lc:Loc) (σ:St) (tmps:Array Value) (F G:Fp):Prop:=
 ∃Ft Fo,(∀b,G b+Ft b+Fo b≤F b)∧x0u w N lc tmps σ.tm Ft∧y03 w N lc σ.ob Fo
structure Fr (w:World) (F:Fp) (N:Nat→Prop) (lc:Loc) (w':World) (F':Fp) (N':Nat→Prop) (lc':Loc):Prop where
 os:w'.os=w.os
 tape:w'.tape=w.tape
 output:w'.output=w.output
 size:w.heap.size≤w'.heap.size
 keep: ∀b,b<w.heap.size→F b=0→w'.heap[b]?=w.heap[b]?
 fp: ∀b,1≤F' b→1≤F b∨w.heap.size≤b
 nn: ∀b,N b→N' b
 nr: ∀b,N' b→N b∨1≤F b∨w.heap.size≤b
 lcs: ∀id,1000≤id→lc' id=lc id
theorem Fr.refl (w:World) (F:Fp) (N:Nat→Prop) (lc:Loc):Fr w F N lc w F N lc:=
 ⟨rfl,rfl,rfl,Nat.le_refl _,fun _ _ _=>rfl,fun _ h=> .inl h,fun _ h=>h,fun _ h=> .inl h,fun _ _=>rfl⟩
theorem Fr.trans {w w1 w2:World} {F F1 F2:Fp} {N N1 N2:Nat→Prop} {lc lc1 lc2:Loc} (h:Fr w F N lc w1 F1 N1 lc1) (k:Fr w1 F1 N1 lc1 w2 F2 N2 lc2) :
 Fr w F N lc w2 F2 N2 lc2 where
 os:=k.os.trans h.os
 tape:=k.tape.trans h.tape
 output:=k.output.trans h.output
 size:=Nat.le_trans h.size k.size
 keep:=fun b hb h0=>by
  have h1:F1 b=0:=by
   rcases Nat.eq_zero_or_pos (F1 b) with h1 | h1
   ·exact h1
   ·rcases h.fp b h1 with h2 | h2 <;> omega
  exact (k.keep b (Nat.lt_of_lt_of_le hb h.size) h1).trans (h.keep b hb h0)
 fp:=fun b hb=>by
  rcases k.fp b hb with h1 | h1
  ·exact h.fp b h1
  ·exact .inr (Nat.le_trans h.size h1)
 nn:=fun b hb=>k.nn b (h.nn b hb)
 nr:=fun b hb=>by
  rcases k.nr b hb with h1 | h1 | h1
  ·exact h.nr b h1
  ·exact .inr (h.fp b h1)
  ·exact .inr (.inr (Nat.le_trans h.size h1))
 lcs:=fun id hid=>(k.lcs id hid).trans (h.lcs id hid)
theorem i0j {w:World} {a:Addr} {v:Value} (h:w.cell? a=some v):a.block<w.heap.size:=World.block_lt_of_cell? w a h
theorem o00 {w w':World} (hk: ∀b,b<w.heap.size→w'.heap[b]?=w.heap[b]?): ∀(st:List (Nat×Nat×Nat)) (l:Option (Nat×Nat)) (x:Nat×Nat),
 resF w l st=some x→resF w' l st=some x
 | [],_,_,h=>h
 | (e,i,f) :: r,some (b,c),x,h=>by
   simp only[resF] at h ⊢
   cases hc:w.cell? ⟨b,i*e+f,none⟩ with
   | none=>rw[hc] at h; simp at h
   | some v=>
     have hlt:=i0j hc
     have hc':w'.cell? ⟨b,i*e+f,none⟩=some v:=by rw[World.cell?_of_block (hk b hlt)]; exact hc
     rw[hc] at h; rw[hc']
     split at h
     ·exact o00 hk r _ x h
     ·exact o00 hk r _ x h
     ·simp at h
 | _ :: _,none,_,h=>by simp[resF] at h
mutual
def C.ref (p:Nat→List (Nat×Nat×Nat)→Bool):C→Bool
 | .vw _ _ id st _ _=>p id st
 | .pt _ id st _ _=>p id st
 | .ps cs=>x0f p cs
 | .fn _ cap=>x0f p cap
 | _=>false
def x0f (p:Nat→List (Nat×Nat×Nat)→Bool):List C→Bool
 | []=>false
 | c :: cs=>c.ref p || x0f p cs
end
def t07 (p:Nat→List (Nat×Nat×Nat)→Bool):List (Bool×List C)→Bool
 | []=>false
 | (_,cs) :: r=>x0f p cs || t07 p r
def A.ref (p:Nat→List (Nat×Nat×Nat)→Bool):A→Bool
 | .one c=>c.ref p
 | .agg cs=>x0f p cs
 | .tup xs=>t07 p xs
def w0u (p:Nat→List (Nat×Nat×Nat)→Bool):List (Nat×A)→List (Nat×A)
 | []=>[]
 | (k,a) :: r=>if a.ref p then w0u p r else (k,a) :: w0u p r
section
variable {w w':World} {N N':Nat→Prop} {lc lc':Loc} {p:Nat→List (Nat×Nat×Nat)→Bool}
mutual
theorem r0f (c:C) (g:Value) (F:Fp) (hk: ∀b,1≤F b∨N b→w'.heap[b]?=w.heap[b]?) (hN: ∀b,N b→N' b)
 (hr: ∀id st,p id st=false→∀x,resF w (lc id) st=some x→resF w' (lc' id) st=some x) (hp:c.ref p=false) (h:repT w N lc c g F):repT w' N' lc' c g F:=by
 cases c with
 | vw t e id st lo n=>
   simp only[repT,C.ref] at h hp ⊢
   obtain⟨rfl,h | ⟨b,cap,a,h1,h2⟩⟩:=h
   ·exact⟨rfl,.inl h⟩
   ·exact⟨rfl,.inr ⟨b,cap,a,hr id st hp _ h1,h2⟩⟩
 | pt e id st i f=>
   simp only[repT,C.ref] at h hp ⊢
   obtain⟨rfl,b,cap,h1,h2⟩:=h
   exact⟨rfl,b,cap,hr id st hp _ h1,h2⟩
 | ps cs=>
   simp only[repT,C.ref] at h hp ⊢
   obtain⟨rfl,b,off,cur,ty,fr,hg,hb,hh,ho,hrow⟩:=h
   exact⟨rfl,b,off,cur,ty,fr,hg,hN b hb,(hk b (.inr hb)).trans hh,ho,x09 cs _ _ (fun b hb=>hk b hb) hN hr hp hrow⟩
 | dead=>exact h
 | int k n=>exact w05 _ _ _ hk hN h
 | bool b=>exact w05 _ _ _ hk hN h
 | str s=>exact w05 _ _ _ hk hN h
 | ar o t e xs=>exact w05 _ _ _ hk hN h
 | op t e cs=>exact w05 _ _ _ hk hN h
 | np=>exact w05 _ _ _ hk hN h
 | fn f cap=>
   simp only[repT,C.ref] at h hp ⊢
   obtain⟨rfl,vs,hg,hrow⟩:=h
   exact⟨rfl,vs,hg,x09 cap _ _ hk hN hr hp hrow⟩
theorem x09: ∀(cs:List C) (vs:List Value) (F:Fp),(∀b,1≤F b∨N b→w'.heap[b]?=w.heap[b]?)→(∀b,N b→N' b)→
 (∀id st,p id st=false→∀x,resF w (lc id) st=some x→resF w' (lc' id) st=some x)→x0f p cs=false→z0m w N lc cs vs F→z0m w' N' lc' cs vs F
 | [],_,_,_,_,_,_,h=>h
 | c :: cs,vs,F,hk,hN,hr,hp,h=>by
   simp only[z0m,x0f,Bool.or_eq_false_iff] at h hp ⊢
   obtain⟨v,vs',F1,F2,hv,rfl,h1,h2⟩:=h
   exact⟨v,vs',F1,F2,hv,rfl,r0f c v F1 (fun b hb=>hk b (hb.imp_left fun h=>by simp only[add]; omega)) hN hr hp.1 h1,
    x09 cs vs' F2 (fun b hb=>hk b (hb.imp_left fun h=>by simp only[add]; omega)) hN hr hp.2 h2⟩
end
theorem l0o: ∀(xs:List (Bool×List C)) (gs:List Value) (F:Fp),(∀b,1≤F b∨N b→w'.heap[b]?=w.heap[b]?)→(∀b,N b→N' b)→
 (∀id st,p id st=false→∀x,resF w (lc id) st=some x→resF w' (lc' id) st=some x)→t07 p xs=false→u0m w N lc xs gs F→u0m w' N' lc' xs gs F
 | [],_,_,_,_,_,_,h=>h
 | (ag,cs) :: r,gs,F,hk,hN,hr,hp,h=>by
   simp only[u0m,t07,Bool.or_eq_false_iff] at h hp ⊢
   obtain⟨v,vs',F1,F2,hv,rfl,h1,h2⟩:=h
   refine⟨v,vs',F1,F2,hv,rfl,?_,l0o r vs' F2 (fun b hb=>hk b (hb.imp_left fun h=>by simp only[add]; omega)) hN hr hp.2 h2⟩
   cases ag
   ·obtain⟨c,rfl,h1⟩:=h1
    simp only[x0f,Bool.or_false] at hp
    exact⟨c,rfl,r0f c v F1 (fun b hb=>hk b (hb.imp_left fun h=>by simp only[add]; omega)) hN hr hp.1 h1⟩
   ·obtain⟨vs,hv,h1⟩:=h1
    exact⟨vs,hv,x09 cs vs F1 (fun b hb=>hk b (hb.imp_left fun h=>by simp only[add]; omega)) hN hr hp.1 h1⟩
theorem w0f (a:A) (g:Value) (F:Fp) (hk: ∀b,1≤F b∨N b→w'.heap[b]?=w.heap[b]?) (hN: ∀b,N b→N' b)
 (hr: ∀id st,p id st=false→∀x,resF w (lc id) st=some x→resF w' (lc' id) st=some x) (hp:a.ref p=false) (h:repA w N lc a g F):repA w' N' lc' a g F:=by
 cases a with
 | one c=>exact r0f c g F hk hN hr hp h
 | agg cs=>
   obtain⟨vs,hg,h⟩:=h
   exact⟨vs,hg,x09 cs vs F hk hN hr hp h⟩
 | tup xs=>
   obtain⟨gs,hg,h⟩:=h
   exact⟨gs,hg,l0o xs gs F hk hN hr hp h⟩
theorem w0r (tmps:Array Value): ∀(tm:List (Nat×A)) (F:Fp),(∀b,1≤F b∨N b→w'.heap[b]?=w.heap[b]?)→(∀b,N b→N' b)→
 (∀id st,p id st=false→∀x,resF w (lc id) st=some x→resF w' (lc' id) st=some x)→x0u w N lc tmps tm F→
 ∃F',(∀b,F' b≤F b)∧x0u w' N' lc' tmps (w0u p tm) F'
 | [],F,_,_,_,h=>⟨F,fun _=>Nat.le_refl _,h⟩
 | (k,a) :: r,F,hk,hN,hr,h=>by
   simp only[x0u] at h
   obtain⟨F1,F2,rfl,h1,h2⟩:=h
   obtain⟨F',hle,h'⟩:=w0r tmps r F2 (fun b hb=>hk b (hb.imp_left fun h=>by simp only[add]; omega)) hN hr h2
   by_cases hp:a.ref p=true
   ·simp only[w0u,hp,if_true]
    exact⟨F',fun b=>by have:=hle b; simp only[add]; omega,h'⟩
   ·have hp:a.ref p=false:=by simpa using hp
    simp only[w0u,hp,Bool.false_eq_true,if_false,x0u]
    exact⟨add F1 F',fun b=>by have:=hle b; simp only[add]; omega,F1,F',rfl,
     w0f a _ F1 (fun b hb=>hk b (hb.imp_left fun h=>by simp only[add]; omega)) hN hr hp h1,h'⟩
mutual
theorem l09: ∀c:C,c.ref (fun _ _=>false)=false
 | .vw .. =>rfl
 | .pt .. =>rfl
 | .ps cs=>w02 cs
 | .int .. =>rfl
 | .bool .. =>rfl
 | .str .. =>rfl
 | .np=>rfl
 | .fn _ cap=>w02 cap
 | .dead=>rfl
 | .op .. =>rfl
 | .ar .. =>rfl
theorem w02: ∀cs:List C,x0f (fun _ _=>false) cs=false
 | []=>rfl
 | c :: cs=>by simp[x0f,l09 c,w02 cs]
end
theorem n02: ∀xs:List (Bool×List C),t07 (fun _ _=>false) xs=false
 | []=>rfl
 | (_,cs) :: r=>by simp[t07,w02 cs,n02 r]
theorem u0y (tmps:Array Value): ∀(tm:List (Nat×A)) (F:Fp),(∀b,1≤F b∨N b→w'.heap[b]?=w.heap[b]?)→(∀b,N b→N' b)→
 (∀id st x,resF w (lc id) st=some x→resF w' (lc' id) st=some x)→x0u w N lc tmps tm F→x0u w' N' lc' tmps tm F
 | [],_,_,_,_,h=>h
 | (k,a) :: r,F,hk,hN,hr,h=>by
   simp only[x0u] at h ⊢
   obtain⟨F1,F2,rfl,h1,h2⟩:=h
   have hp:a.ref (fun _ _=>false)=false:=by
    have hc: ∀c:C,c.ref (fun _ _=>false)=false:=l09
    have hcs: ∀cs:List C,x0f (fun _ _=>false) cs=false:=w02
    have ht: ∀xs,t07 (fun _ _=>false) xs=false:=fun xs=>by induction xs with | nil=>rfl | cons c cs ih=>simp[t07,hcs,ih]
    cases a with
    | one c=>exact hc c
    | agg cs=>exact hcs cs
    | tup xs=>exact ht xs
   exact⟨F1,F2,rfl,w0f (p:=fun _ _=>false) a _ F1 (fun b hb=>hk b (hb.imp_left fun h=>by simp only[add]; omega)) hN (fun id st _=>hr id st) hp h1,
    u0y tmps r F2 (fun b hb=>hk b (hb.imp_left fun h=>by simp only[add]; omega)) hN hr h2⟩
end
section
variable {w:World} {N:Nat→Prop} {lc:Loc} {tmps:Array Value}
theorem x00: ∀(tm:List (Nat×A)) (F:Fp) (d:Nat) (a:A),look tm d=some a→x0u w N lc tmps tm F→
 ∃F1 F2,(∀b,F1 b+F2 b≤F b)∧repA w N lc a (tmps.getD d undef) F1∧x0u w N lc tmps (del tm d) F2
 | [],_,_,_,hl,_=>by simp[look] at hl
 | (k,x) :: r,F,d,a,hl,h=>by
   simp only[x0u] at h
   obtain⟨F1,F2,rfl,h1,h2⟩:=h
   simp only[look] at hl
   have hdel: ∀(r:List (Nat×A)) (F2:Fp),x0u w N lc tmps r F2→∃G,(∀b,G b≤F2 b)∧x0u w N lc tmps (del r d) G:=by
    intro r
    induction r with
    | nil=>intro F2 h; exact⟨F2,fun _=>Nat.le_refl _,h⟩
    | cons y r ih=>
      intro F2 h
      obtain⟨k',y⟩:=y
      simp only[x0u] at h
      obtain⟨G1,G2,rfl,g1,g2⟩:=h
      obtain⟨G,hG,hr⟩:=ih G2 g2
      simp only[del]
      split
      ·exact⟨G,fun b=>by have:=hG b; simp only[add]; omega,hr⟩
      ·simp only[x0u]
       exact⟨add G1 G,fun b=>by have:=hG b; simp only[add]; omega,G1,G,rfl,g1,hr⟩
   split at hl
   ·rename_i hkd
    subst hkd
    injection hl with hl
    subst hl
    obtain⟨G,hG,hr⟩:=hdel r F2 h2
    refine⟨F1,G,fun b=>by have:=hG b; simp only[add]; omega,h1,?_⟩
    simp only[del,if_true]
    exact hr
   ·rename_i hkd
    obtain⟨G1,G2,hG,g1,g2⟩:=x00 r F2 d a hl h2
    refine⟨G1,add F1 G2,fun b=>by have:=hG b; simp only[add]; omega,g1,?_⟩
    simp only[del,if_neg hkd,x0u]
    exact⟨F1,G2,rfl,h1,g2⟩
theorem l0n (d:Nat): ∀(r:List (Nat×A)) (F2:Fp),x0u w N lc tmps r F2→∃G,(∀b,G b≤F2 b)∧x0u w N lc tmps (del r d) G
 | [],F2,h=>⟨F2,fun _=>Nat.le_refl _,h⟩
 | (k',y) :: r,F2,h=>by
   simp only[x0u] at h
   obtain⟨G1,G2,rfl,g1,g2⟩:=h
   obtain⟨G,hG,hr⟩:=l0n d r G2 g2
   simp only[del]
   split
   ·exact⟨G,fun b=>by have:=hG b; simp only[add]; omega,hr⟩
   ·simp only[x0u]
    exact⟨add G1 G,fun b=>by have:=hG b; simp only[add]; omega,G1,G,rfl,g1,hr⟩
theorem i0m (d:Nat): ∀r:List (Nat×A),∀k a,(k,a)∈del r d→k≠d
 | [],_,_,h=>by simp[del] at h
 | (k',y) :: r,k,a,h=>by
   simp only[del] at h
   split at h
   ·exact i0m d r k a h
   ·rename_i hk
    rcases List.mem_cons.1 h with h | h
    ·injection h with h1 _; subst h1; exact hk
    ·exact i0m d r k a h
theorem p01 (d:Nat) (v:Value): ∀(r:List (Nat×A)) (F:Fp),(∀k a,(k,a)∈r→k≠d)→x0u w N lc tmps r F→x0u w N lc (tmps.setIfInBounds d v) r F
 | [],_,_,h=>h
 | (k,a) :: r,F,hd,h=>by
   simp only[x0u] at h ⊢
   obtain⟨F1,F2,rfl,h1,h2⟩:=h
   refine⟨F1,F2,rfl,?_,p01 d v r F2 (fun k' a' hm=>hd k' a' (List.mem_cons_of_mem _ hm)) h2⟩
   have hkd:k≠d:=hd k a (List.mem_cons_self ..)
   have:(tmps.setIfInBounds d v).getD k undef=tmps.getD k undef:=by
    simp[Array.getD_eq_getD_getElem?,Array.getElem?_setIfInBounds,Ne.symm hkd]
   rw[this]; exact h1
theorem e09 {d:Nat} {v:Value} {a:A} {r:List (Nat×A)} {F1 F2:Fp} (hd:d<tmps.size) (h1:repA w N lc a v F1) (h2:x0u w N lc tmps r F2) :
 ∃F',(∀b,F' b≤F1 b+F2 b)∧x0u w N lc (tmps.setIfInBounds d v) (put r d a) F':=by
 obtain⟨G,hG,hr⟩:=l0n (w:=w) (N:=N) (lc:=lc) (tmps:=tmps) d r F2 h2
 refine⟨add F1 G,fun b=>by have:=hG b; simp only[add]; omega,?_⟩
 simp only[put,x0u]
 refine⟨F1,G,rfl,?_,p01 d v _ G (i0m d r) hr⟩
 have:(tmps.setIfInBounds d v).getD d undef=v:=by simp[Array.getD_eq_getD_getElem?,hd]
 rw[this]; exact h1
end
end Go.Am
namespace Go.Am
inductive X where
 | t (n:Nat)
 | c (c:C)
 deriving Inhabited
inductive I where
 | mv (x:X)
 | asn (x:X)
 | asf (x:X)
 | als (x:X)
 | pick (c a b:X)
 | bin (o:BinOp) (x y:X)
 | beq (ne:Bool) (x y:X)
 | not (x:X)
 | neg (x:X)
 | conv (k:IntKind) (x:X)
 | len (x:X)
 | lns (x:X)
 | mnx (mx:Bool) (x y:X)
 | ext (i:Nat) (x:X)
 | fld (off n:Nat) (ag:Bool) (x:X)
 | idx (x i:X)
 | fad (off:Nat) (p:X)
 | iad (e:Nat) (x i:X)
 | ld (n:Nat) (ag:Bool) (p:X)
 | slc (e:Nat) (x:X) (lo hi:Option X)
 | sls (x:X) (lo hi:Option X)
 | b2s (x:X)
 | sqe (ne:Bool) (ks:List Bool) (x y:X)
 | bld (fz:Bool) (z:List C) (parts:List (Nat×Nat×X))
 | idxa (len e:Nat) (ag:Bool) (x i:X)
 | nil (x:X)
 | iaa (len e:Nat) (x i:X)
 | mkf (f:Nat) (xs:List X)
 | box (t e:Nat) (x:X)
 | boxs (e:Nat) (x:X)
 | alc (t e:Nat) (z:List C)
 | st (n:Nat) (fz:Bool) (p v:X)
 | bls (t e:Nat) (fz:Bool) (parts:List X)
 | mks (t e by_:Nat) (z:List C) (l c:X)
 | app (t e by_:Nat) (fz:Bool) (s x:X)
 | call (f:Nat) (args:List X)
 | callr (f:Nat) (x:X) (args:List X)
 | callo (f k:Nat) (args:List X)
 | callv (x:X) (args:List X)
 | calln (f:Nat) (js:List Nat) (args:List X)
 | callz (f:Nat) (ns:List Nat) (args:List X)
 | callzr (f:Nat) (ns:List Nat) (x:X) (args:List X)
 | callf (f:Nat) (args:List X)
 | callrf (f:Nat) (x:X) (args:List X)
 | callro (f:Nat) (x:X) (args:List X)
 deriving Inhabited
structure Ins where
 d:Option Nat
 gd:Option (Nat×Bool)
 i:I
 deriving Inhabited
def ev (σ:St):X→Option A
 | .t n=>look σ.tm n
 | .c c=>some (.one c)
def C.aff:C→Bool
 | .ar true _ _ _=>true
 | .op .. =>true
 | _=>false
def t0r:List C→Bool
 | []=>false
 | c :: cs=>c.aff || t0r cs
def g07:List (Bool×List C)→Bool
 | []=>false
 | (_,cs) :: r=>t0r cs || g07 r
def A.aff:A→Bool
 | .one c=>c.aff
 | .agg cs=>t0r cs
 | .tup xs=>g07 xs
section
variable {w:World} {N:Nat→Prop} {lc:Loc}
theorem s0l {c:C} {g:Value} {F:Fp} (ha:c.aff=false) (h:repC w N c g F):F=fz:=by
 cases c with
 | int k n=>exact h.2
 | bool b=>exact h.2
 | str s=>exact h.2
 | np=>exact h.2
 | vw=>exact h.elim
 | pt=>exact h.elim
 | ps=>exact h.elim
 | fn f cap=>exact h.1
 | dead=>exact h.1
 | op=>simp[C.aff] at ha
 | ar o t e xs=>
   cases o with
   | true=>simp[C.aff] at ha
   | false=>exact h.1
theorem s0p {c:C} {g:Value} {F:Fp} (ha:c.aff=false) (h:repT w N lc c g F):F=fz:=by
 cases c with
 | vw=>exact h.1
 | pt=>exact h.1
 | ps=>exact h.1
 | dead=>exact h
 | op=>simp[C.aff] at ha
 | int k n=>exact s0l (w:=w) (N:=N) ha h
 | bool b=>exact s0l (w:=w) (N:=N) ha h
 | str s=>exact s0l (w:=w) (N:=N) ha h
 | np=>exact s0l (w:=w) (N:=N) ha h
 | fn f cap=>exact h.1
 | ar o t e xs=>exact s0l (w:=w) (N:=N) ha h
theorem t08: ∀{cs:List C} {vs:List Value} {F:Fp},t0r cs=false→z0m w N lc cs vs F→F=fz
 | [],_,_,_,h=>h.2
 | c :: cs,_,_,ha,⟨v,vs',F1,F2,_,hF,h1,h2⟩=>by
   simp only[t0r,Bool.or_eq_false_iff] at ha
   rw[hF,s0p ha.1 h1,t08 ha.2 h2,z0g]
theorem j0v: ∀{xs:List (Bool×List C)} {gs:List Value} {F:Fp},g07 xs=false→u0m w N lc xs gs F→F=fz
 | [],_,_,_,h=>h.2
 | (ag,cs) :: r,_,_,ha,⟨v,vs',F1,F2,_,hF,h1,h2⟩=>by
   simp only[g07,Bool.or_eq_false_iff] at ha
   have:F1=fz:=by
    cases ag with
    | true=>obtain⟨_,_,h1⟩:=h1; exact t08 ha.1 h1
    | false=>
      obtain⟨c,rfl,h1⟩:=h1
      simp only[t0r,Bool.or_false] at ha
      exact s0p ha.1 h1
   rw[hF,this,j0v ha.2 h2,z0g]
theorem h0o {a:A} {g:Value} {F:Fp} (ha:a.aff=false) (h:repA w N lc a g F):F=fz:=by
 cases a with
 | one c=>exact s0p ha h
 | agg cs=>obtain⟨_,_,h⟩:=h; exact t08 ha h
 | tup xs=>obtain⟨_,_,h⟩:=h; exact j0v ha h
end
def v06 (σ:St) (x:X):Option (A×St):=
 match x with
 | .t n=>match look σ.tm n with
   | some a=>some (a,if a.aff then { σ with tm:=del σ.tm n } else σ)
   | none=>none
 | .c c=>some (.one c,σ)
def setT (σ:St) (d:Option Nat) (a:A):St:=
 match d with
 | some d=>{ σ with tm:=put σ.tm d a }
 | none=>σ
def XOf:X→Operand→Prop
 | .t n,.tmp m=>n=m
 | .c c,o=>∀(w:World) (N:Nat→Prop) (lc:Loc) (a:Act),repT w N lc c (a.eval o) fz
 | _,_=>False
section
variable {w:World} {N:Nat→Prop} {lc:Loc} {tmps:Array Value} {ds:List Deferred} {F G:Fp} {σ σ1:St}
theorem y0w {x:X} {o:Operand} {a:A} (hx:XOf x o) (h:v06 σ x=some (a,σ1)) (hh:Hold w N lc σ tmps F G) :
 ∃G1,repA w N lc a ((Act.mk tmps ds).eval o) G1∧Hold w N lc σ1 tmps F (add G G1)∧σ1.ob=σ.ob∧(a.aff=false→G1=fz∧σ1=σ):=by
 cases x with
 | c c=>
   simp only[v06,Option.some.injEq,Prod.mk.injEq] at h
   obtain⟨rfl,rfl⟩:=h
   refine⟨fz,hx w N lc _,by rw[z0g]; exact hh,rfl,fun _=>⟨rfl,rfl⟩⟩
 | t n=>
   cases o with
   | tmp m=>
     have hnm:n=m:=hx
     subst hnm
     obtain⟨Ft,Fo,hle,ht,ho⟩:=hh
     simp only[v06] at h
     cases hl:look σ.tm n with
     | none=>rw[hl] at h; simp at h
     | some a'=>
       rw[hl] at h
       simp only[Option.some.injEq,Prod.mk.injEq] at h
       obtain⟨rfl,rfl⟩:=h
       obtain⟨F1,F2,hle',h1,h2⟩:=x00 σ.tm Ft n a' hl ht
       cases haff:a'.aff with
       | true=>
         simp only[if_true]
         exact⟨F1,h1,⟨F2,Fo,fun b=>by have:=hle b; have:=hle' b; simp only[add]; omega,h2,ho⟩,trivial,fun h=>by simp at h⟩
       | false=>
         have:F1=fz:=h0o haff h1
         subst this
         simp only[Bool.false_eq_true,if_false]
         exact⟨fz,h1,⟨Ft,Fo,fun b=>by have:=hle b; simp only[add,fz]; omega,ht,ho⟩,trivial,fun _=>⟨rfl,trivial⟩⟩
   | const=>exact hx.elim
   | global=>exact hx.elim
   | func=>exact hx.elim
theorem y0r {x:X} {o:Operand} {a:A} (hx:XOf x o) (h:ev σ x=some a) (hh:Hold w N lc σ tmps F G) :
 ∃G1,repA w N lc a ((Act.mk tmps ds).eval o) G1∧∀b,G1 b≤F b:=by
 cases x with
 | c c=>
   simp only[ev,Option.some.injEq] at h
   subst h
   exact⟨fz,hx w N lc _,fun _=>Nat.zero_le _⟩
 | t n=>
   cases o with
   | tmp m=>
     have hnm:n=m:=hx
     subst hnm
     obtain⟨Ft,Fo,hle,ht,ho⟩:=hh
     obtain⟨F1,F2,hle',h1,h2⟩:=x00 σ.tm Ft n a h ht
     exact⟨F1,h1,fun b=>by have:=hle b; have:=hle' b; omega⟩
   | const=>exact hx.elim
   | global=>exact hx.elim
   | func=>exact hx.elim
theorem y0j {d:Option Nat} {a:A} {v:Value} {G1:Fp} (hh:Hold w N lc σ tmps F (add G G1)) (ha:repA w N lc a v G1) (hd: ∀k,d=some k→k<tmps.size) :
 Hold w N lc (setT σ d a) ((Act.mk tmps ds).put d v).tmps F G:=by
 obtain⟨Ft,Fo,hle,ht,ho⟩:=hh
 cases d with
 | none=>exact⟨Ft,Fo,fun b=>by have:=hle b; simp only[add] at this; omega,ht,ho⟩
 | some d=>
   obtain⟨F',hle',h'⟩:=e09 (d:=d) (hd d rfl) ha ht
   exact⟨F',Fo,fun b=>by have h1:=hle b; have h2:=hle' b; simp only[add] at h1; omega,h',ho⟩
end
end Go.Am
namespace Go.Am
def f0e (op:BinOp) (k:IntKind) (a b:Int):Option C:=
 match op with
 | .add=>some (.int k (k.wrap (a+b)))
 | .sub=>some (.int k (k.wrap (a - b)))
 | .mul=>some (.int k (k.wrap (a*b)))
 | .quo=>if b=0 then none else some (.int k (k.wrap (a.tdiv b)))
 | .rem=>if b=0 then none else some (.int k (a.tmod b))
 | .and=>some (.int k (k.wrap (BitVec.ofInt k.bits a &&& BitVec.ofInt k.bits b).toNat))
 | .or=>some (.int k (k.wrap (BitVec.ofInt k.bits a ||| BitVec.ofInt k.bits b).toNat))
 | .xor=>some (.int k (k.wrap (BitVec.ofInt k.bits a ^^^ BitVec.ofInt k.bits b).toNat))
 | .eql=>some (.bool (a == b))
 | .neq=>some (.bool (a != b))
 | .lss=>some (.bool (decide (a<b)))
 | .leq=>some (.bool (decide (a≤b)))
 | .gtr=>some (.bool (decide (a>b)))
 | .geq=>some (.bool (decide (a≥b)))
 | .shl | .shr | .andNot=>none
def x0r (op:BinOp) (k:IntKind) (a b:Int):Option C:=
 if b<0 then none else
 match op with
 | .shl=>some (.int k (k.wrap (a*2 ^ (min b.toNat k.bits))))
 | .shr=>some (.int k (a.fdiv (2 ^ (min b.toNat k.bits))))
 | _=>none
def l0z (op:BinOp) (a b:ByteArray):Option C:=
 match op with
 | .add=>if a.size+b.size≤4294967296 then some (.str (a ++ b)) else none
 | .eql=>some (.bool (a.toList == b.toList))
 | .neq=>some (.bool (!(a.toList == b.toList)))
 | _=>none
def q0e (op:BinOp) (x y:A):Option C:=
 match x,y with
 | .one (.int k a),.one (.int k' b)=>
   match op with
   | .shl=>x0r .shl k a b
   | .shr=>x0r .shr k a b
   | op=>if k=k' then f0e op k a b else none
 | .one (.str a),.one (.str b)=>l0z op a b
 | _,_=>none
theorem l0s {P:Program} {op:BinOp} {x y:A} {c:C} (h:q0e op x y=some c) {w:World} {N:Nat→Prop} {lc:Loc} {g1 g2:Value} {F1 F2:Fp}
 (h1:repA w N lc x g1 F1) (h2:repA w N lc y g2 F2) (t:TypeId) :
 ∃v,(binOp op t g1 g2).run P w = .ok v w∧repT w N lc c v fz∧(∀(x y:Operand),(eqGuard op t x y g1 g2).run P w = .ok () w):=by
 unfold q0e at h
 split at h
 ·rename_i k a k' b
  obtain⟨rfl,_⟩:=h1
  obtain⟨rfl,_⟩:=h2
  have hq: ∀(x y:Operand),(eqGuard op t x y (.int k a) (.int k' b)).run P w = .ok () w:=fun x y=>by unfold eqGuard; cases op <;> rfl
  cases op
  case shl=>
   simp only[x0r] at h
   by_cases hb:b<0
   ·simp[hb] at h
   ·simp only[hb,if_false,Option.some.injEq] at h
    subst h
    exact⟨_,by simp only[binOp,Op.shift,if_neg hb]; rfl,⟨rfl,rfl⟩,hq⟩
  case shr=>
   simp only[x0r] at h
   by_cases hb:b<0
   ·simp[hb] at h
   ·simp only[hb,if_false,Option.some.injEq] at h
    subst h
    exact⟨_,by simp only[binOp,Op.shift,if_neg hb]; rfl,⟨rfl,rfl⟩,hq⟩
  all_goals
   by_cases hk:k=k'
   ·subst hk
    simp only[if_true,f0e] at h
    first
     | (simp only[Option.some.injEq] at h
        subst h
        exact⟨_,by simp[binOp]; rfl,⟨rfl,rfl⟩,hq⟩)
     | (by_cases hb:b=0
        ·simp[hb] at h
        ·simp only[hb,if_false,Option.some.injEq] at h
         subst h
         exact⟨_,by simp only[binOp,Op.intDiv,if_neg hb,ne_eq,not_true_eq_false,if_false]; rfl,⟨rfl,rfl⟩,hq⟩)
     | simp at h
   ·simp[hk] at h
 ·rename_i a b
  obtain⟨rfl,_⟩:=h1
  obtain⟨rfl,_⟩:=h2
  have hq: ∀(x y:Operand),(eqGuard op t x y (.string a) (.string b)).run P w = .ok () w:=fun x y=>by unfold eqGuard; cases op <;> rfl
  cases op
  case add=>
   simp only[l0z] at h
   split at h
   ·rename_i hs
    simp only[Option.some.injEq] at h
    subst h
    refine⟨_,?_,⟨rfl,rfl⟩,hq⟩
    have: ¬(((a.size+b.size:Nat):Int)>IntKind.i64.max):=by
     have:IntKind.i64.max=9223372036854775807:=by decide
     rw[this]; omega
    simp only[binOp,Op.stringOp,if_neg this]; rfl
   ·simp at h
  case eql=>
   simp only[l0z,Option.some.injEq] at h
   subst h
   exact⟨_,by simp only[binOp,Op.stringOp]; rfl,⟨rfl,rfl⟩,hq⟩
  case neq=>
   simp only[l0z,Option.some.injEq] at h
   subst h
   exact⟨_,by simp only[binOp,Op.stringOp]; rfl,⟨rfl,rfl⟩,hq⟩
  all_goals simp[l0z] at h
 ·simp at h
def C.sc:C→Bool
 | .int .. | .bool _ | .str _=>true
 | _=>false
theorem u12 {op:BinOp} {k:IntKind} {a b:Int} {c:C} (h:f0e op k a b=some c):c.sc=true:=by
 cases op <;> simp only[f0e] at h <;> (try split at h) <;> first | (injection h with h; subst h; rfl) | cases h
theorem t1r {op:BinOp} {x y:A} {c:C} (h:q0e op x y=some c):c.sc=true:=by
 unfold q0e at h
 split at h
 ·split at h
  ·simp only[x0r] at h; split at h <;> first | (injection h with h; subst h; rfl) | cases h
  ·simp only[x0r] at h; split at h <;> first | (injection h with h; subst h; rfl) | cases h
  ·split at h
   ·exact u12 h
   ·cases h
 ·cases op <;> simp only[l0z] at h <;> (try split at h) <;> first | (injection h with h; subst h; rfl) | cases h
 ·cases h
theorem l0m {w w':World} {N N':Nat→Prop} {lc lc':Loc} {c:C} {g g':Value} {F F':Fp} (hs:c.sc=true) (h:repT w N lc c g F) (h':repT w' N' lc' c g' F'):g=g':=by
 cases c with
 | int k n=>exact h.1.trans h'.1.symm
 | bool b=>exact h.1.trans h'.1.symm
 | str s=>exact h.1.trans h'.1.symm
 | _=>simp[C.sc] at hs
theorem x11 {P:Program} {op:BinOp} {x y:A} {c:C} (h:q0e op x y=some c) {w:World} {N:Nat→Prop} {lc:Loc} {g1 g2:Value} {F1 F2:Fp}
 (h1:repA w N lc x g1 F1) (h2:repA w N lc y g2 F2) (t:TypeId) :
 ∃v,(∀w':World,(binOp op t g1 g2).run P w' = .ok v w')∧repT w N lc c v fz∧(∀(x y:Operand) (w':World),(eqGuard op t x y g1 g2).run P w' = .ok () w'):=by
 obtain⟨v,_,hr,_⟩:=l0s (P:=P) h h1 h2 t
 have key: ∀w':World,repA w' N lc x g1 F1∧repA w' N lc y g2 F2:=by
  intro w'
  unfold q0e at h
  split at h
  ·exact⟨h1,h2⟩
  ·exact⟨h1,h2⟩
  ·cases h
 refine⟨v,fun w'=>?_,hr,fun x y w'=>?_⟩
 ·obtain⟨v',hv',hr',_⟩:=l0s (P:=P) h (key w').1 (key w').2 t
  rw[l0m (t1r h) hr hr']; exact hv'
 ·obtain⟨v',_,_,hq'⟩:=l0s (P:=P) h (key w').1 (key w').2 t
  exact hq' x y
end Go.Am
namespace Go.Am
section
variable {w:World} {N:Nat→Prop} {lc:Loc}
theorem y01: ∀{cs:List C} {vs:List Value} {F:Fp},z0d w N cs vs F→vs.length=cs.length
 | [],_,_,h=>by simp only[z0d] at h; simp[h.1]
 | c :: cs,_,_,h=>by
   simp only[z0d] at h
   obtain⟨v,vs',F1,F2,rfl,_,_,h2⟩:=h
   simp[y01 h2]
theorem w0g {e:Nat}: ∀{xs:List (List C)} {vs:List Value} {F:Fp},z09 w N e xs vs F→vs.length=xs.length*e
 | [],_,_,h=>by simp only[z09] at h; simp[h.1]
 | r :: rs,_,_,h=>by
   simp only[z09] at h
   obtain⟨v1,v2,F1,F2,rfl,hl,_,h1,h2⟩:=h
   have:=y01 h1
   have:=w0g h2
   simp only[List.length_append,List.length_cons,Nat.add_mul,Nat.one_mul]
   omega
theorem l0i: ∀{cs:List C} {vs:List Value} {F:Fp} {f:Nat} {c:C},z0d w N cs vs F→cs[f]?=some c→
 ∃v F1 F2,vs[f]?=some v∧F=add F1 F2∧repC w N c v F1∧
  ∀(w':World) (N':Nat→Prop) (c':C) (v':Value) (F1':Fp),(∀b,1≤F2 b∨N b→w'.heap[b]?=w.heap[b]?)→(∀b,N b→N' b)→
   repC w' N' c' v' F1'→z0d w' N' (cs.set f c') (vs.set f v') (add F1' F2)
 | [],_,_,_,_,_,hf=>by simp at hf
 | c0 :: cs,_,_,0,c,h,hf=>by
   simp only[z0d] at h
   obtain⟨v,vs',F1,F2,rfl,rfl,h1,h2⟩:=h
   simp only[List.getElem?_cons_zero,Option.some.injEq] at hf
   subst hf
   refine⟨v,F1,F2,rfl,rfl,h1,fun w' N' c' v' F1' hk hN h'=>?_⟩
   simp only[List.set_cons_zero,z0d]
   exact⟨v',vs',F1',F2,rfl,rfl,h',y0n cs vs' F2 hk hN h2⟩
 | c0 :: cs,_,_,f+1,c,h,hf=>by
   simp only[z0d] at h
   obtain⟨v,vs',F1,F2,rfl,rfl,h1,h2⟩:=h
   simp only[List.getElem?_cons_succ] at hf
   obtain⟨v0,G1,G2,hv,rfl,hc,hset⟩:=l0i h2 hf
   refine⟨v0,G1,add F1 G2,by simpa using hv,add_left_comm ..,hc,fun w' N' c' v' F1' hk hN h'=>?_⟩
   simp only[List.set_cons_succ,z0d]
   exact⟨v,vs'.set f v',F1,add F1' G2,rfl,add_left_comm ..,w05 c0 v F1 (fun b hb=>hk b (hb.imp_left fun h=>by simp only[add]; omega)) hN h1,
    hset w' N' c' v' F1' (fun b hb=>hk b (hb.imp_left fun h=>by simp only[add]; omega)) hN h'⟩
theorem r0d {e:Nat}: ∀{xs:List (List C)} {vs:List Value} {F:Fp} {i f:Nat} {r:List C} {c:C},z09 w N e xs vs F→xs[i]?=some r→r[f]?=some c→
 ∃v F1 F2,vs[i*e+f]?=some v∧F=add F1 F2∧repC w N c v F1∧f<e∧
  ∀(w':World) (N':Nat→Prop) (c':C) (v':Value) (F1':Fp),(∀b,1≤F2 b∨N b→w'.heap[b]?=w.heap[b]?)→(∀b,N b→N' b)→
   repC w' N' c' v' F1'→z09 w' N' e (xs.set i (r.set f c')) (vs.set (i*e+f) v') (add F1' F2)
 | [],_,_,_,_,_,_,_,hi,_=>by simp at hi
 | r0 :: rs,_,_,0,f,r,c,h,hi,hf=>by
   simp only[z09] at h
   obtain⟨v1,v2,F1,F2,rfl,hl,rfl,h1,h2⟩:=h
   simp only[List.getElem?_cons_zero,Option.some.injEq] at hi
   subst hi
   obtain⟨v,G1,G2,hv,rfl,hc,hset⟩:=l0i h1 hf
   have hlen:=y01 h1
   have hfl:f<v1.length:=by
    rcases Nat.lt_or_ge f v1.length with h | h
    ·exact h
    ·rw[List.getElem?_eq_none h] at hv; cases hv
   refine⟨v,G1,add G2 F2,by simp only[Nat.zero_mul,Nat.zero_add]; rw[List.getElem?_append_left hfl]; exact hv,add_assoc ..,hc,by omega,fun w' N' c' v' F1' hk hN h'=>?_⟩
   simp only[List.set_cons_zero,z09,Nat.zero_mul,Nat.zero_add]
   refine⟨v1.set f v',v2,add F1' G2,F2,by rw[List.set_append_left _ _ hfl],by simpa using hl,(add_assoc ..).symm,hset w' N' c' v' F1' (fun b hb=>hk b (hb.imp_left fun h=>by simp only[add]; omega)) hN h',
    x0a e rs v2 F2 (fun b hb=>hk b (hb.imp_left fun h=>by simp only[add]; omega)) hN h2⟩
 | r0 :: rs,_,_,i+1,f,r,c,h,hi,hf=>by
   simp only[z09] at h
   obtain⟨v1,v2,F1,F2,rfl,hl,rfl,h1,h2⟩:=h
   simp only[List.getElem?_cons_succ] at hi
   obtain⟨v,G1,G2,hv,rfl,hc,hfe,hset⟩:=r0d h2 hi hf
   have hlen:=y01 h1
   have hidx:(i+1)*e+f=v1.length+(i*e+f):=by rw[hlen,hl,Nat.add_mul,Nat.one_mul]; omega
   refine⟨v,G1,add F1 G2,by rw[hidx,List.getElem?_append_right (by omega),Nat.add_sub_cancel_left]; exact hv,add_left_comm ..,hc,hfe,fun w' N' c' v' F1' hk hN h'=>?_⟩
   simp only[List.set_cons_succ,z09]
   refine⟨v1,v2.set (i*e+f) v',F1,add F1' G2,?_,hl,add_left_comm ..,y0n r0 v1 F1 (fun b hb=>hk b (hb.imp_left fun h=>by simp only[add]; omega)) hN h1,
    hset w' N' c' v' F1' (fun b hb=>hk b (hb.imp_left fun h=>by simp only[add]; omega)) hN h'⟩
   rw[hidx,List.set_append_right _ _ (by omega),Nat.add_sub_cancel_left]
theorem t0a {e:Nat}: ∀{xs:List (List C)} {vs:List Value} {F:Fp} {i:Nat} {r:List C},z09 w N e xs vs F→xs[i]?=some r→
 ∃F1,(∀b,F1 b≤F b)∧r.length=e∧z0d w N r ((vs.drop (i*e)).take e) F1∧i*e+e≤vs.length
 | [],_,_,_,_,_,hi=>by simp at hi
 | r0 :: rs,_,_,0,r,h,hi=>by
   simp only[z09] at h
   obtain⟨v1,v2,F1,F2,rfl,hl,rfl,h1,h2⟩:=h
   simp only[List.getElem?_cons_zero,Option.some.injEq] at hi
   subst hi
   have hlen:=y01 h1
   refine⟨F1,fun b=>by simp only[add]; omega,hl,?_,by simp only[List.length_append]; omega⟩
   have:((v1 ++ v2).drop (0*e)).take e=v1:=by
    rw[Nat.zero_mul,List.drop_zero,← hl,← hlen,List.take_left']; rfl
   rw[this]; exact h1
 | r0 :: rs,_,_,i+1,r,h,hi=>by
   simp only[z09] at h
   obtain⟨v1,v2,F1,F2,rfl,hl,rfl,h1,h2⟩:=h
   simp only[List.getElem?_cons_succ] at hi
   obtain⟨G,hG,hre,hrow,hle⟩:=t0a h2 hi
   have hlen:=y01 h1
   refine⟨G,fun b=>by have:=hG b; simp only[add]; omega,hre,?_,by simp only[List.length_append,Nat.add_mul,Nat.one_mul]; omega⟩
   have:((v1 ++ v2).drop ((i+1)*e)).take e=(v2.drop (i*e)).take e:=by
    have hidx:(i+1)*e=v1.length+i*e:=by rw[hlen,hl,Nat.add_mul,Nat.one_mul]; omega
    rw[hidx,List.drop_length_add_append]
   rw[this]; exact hrow
theorem s0o: ∀{cs:List C} {vs:List Value} (n:Nat) {F:Fp},z0d w N cs vs F→∃F',(∀b,F' b≤F b)∧z0d w N (cs.drop n) (vs.drop n) F'
 | cs,vs,0,F,h=>⟨F,fun _=>Nat.le_refl _,by simpa using h⟩
 | [],vs,n+1,F,h=>by
   simp only[z0d] at h
   obtain⟨rfl,rfl⟩:=h
   exact⟨fz,fun _=>Nat.le_refl _,by simp[z0d]⟩
 | c :: cs,_,n+1,_,h=>by
   simp only[z0d] at h
   obtain⟨v,vs',F1,F2,rfl,rfl,h1,h2⟩:=h
   obtain⟨F',hle,h'⟩:=s0o n h2
   exact⟨F',fun b=>by have:=hle b; simp only[add]; omega,by simpa using h'⟩
theorem q0x: ∀{cs:List C} {vs:List Value} (n:Nat) {F:Fp},z0d w N cs vs F→∃F',(∀b,F' b≤F b)∧z0d w N (cs.take n) (vs.take n) F'
 | cs,vs,0,F,h=>⟨fz,fun _=>Nat.zero_le _,by simp[z0d]⟩
 | [],vs,n+1,F,h=>by
   simp only[z0d] at h
   obtain⟨rfl,rfl⟩:=h
   exact⟨fz,fun _=>Nat.le_refl _,by simp[z0d]⟩
 | c :: cs,_,n+1,_,h=>by
   simp only[z0d] at h
   obtain⟨v,vs',F1,F2,rfl,rfl,h1,h2⟩:=h
   obtain⟨F',hle,h'⟩:=q0x n h2
   refine⟨add F1 F',fun b=>by have:=hle b; simp only[add]; omega,?_⟩
   simp only[List.take_succ_cons,z0d]
   exact⟨v,_,F1,F',rfl,rfl,h1,h'⟩
theorem u09 {e:Nat}: ∀{xs:List (List C)} {vs:List Value} (n:Nat) {F:Fp},z09 w N e xs vs F→∃F',(∀b,F' b≤F b)∧z09 w N e (xs.drop n) (vs.drop (n*e)) F'
 | xs,vs,0,F,h=>⟨F,fun _=>Nat.le_refl _,by simpa using h⟩
 | [],vs,n+1,F,h=>by
   simp only[z09] at h
   obtain⟨rfl,rfl⟩:=h
   exact⟨fz,fun _=>Nat.le_refl _,by simp[z09]⟩
 | r :: rs,_,n+1,_,h=>by
   simp only[z09] at h
   obtain⟨v1,v2,F1,F2,rfl,hl,rfl,h1,h2⟩:=h
   obtain⟨F',hle,h'⟩:=u09 n h2
   have hlen:=y01 h1
   have hidx:(n+1)*e=v1.length+n*e:=by rw[hlen,hl,Nat.add_mul,Nat.one_mul]; omega
   refine⟨F',fun b=>by have:=hle b; simp only[add]; omega,?_⟩
   rw[hidx,List.drop_length_add_append]
   simpa using h'
theorem w0i {e:Nat}: ∀{xs:List (List C)} {vs:List Value} (n:Nat) {F:Fp},z09 w N e xs vs F→∃F',(∀b,F' b≤F b)∧z09 w N e (xs.take n) (vs.take (n*e)) F'
 | xs,vs,0,F,h=>⟨fz,fun _=>Nat.zero_le _,by simp[z09]⟩
 | [],vs,n+1,F,h=>by
   simp only[z09] at h
   obtain⟨rfl,rfl⟩:=h
   exact⟨fz,fun _=>Nat.le_refl _,by simp[z09]⟩
 | r :: rs,_,n+1,_,h=>by
   simp only[z09] at h
   obtain⟨v1,v2,F1,F2,rfl,hl,rfl,h1,h2⟩:=h
   obtain⟨F',hle,h'⟩:=w0i n h2
   have hlen:=y01 h1
   have hidx:(n+1)*e=v1.length+n*e:=by rw[hlen,hl,Nat.add_mul,Nat.one_mul]; omega
   refine⟨add F1 F',fun b=>by have:=hle b; simp only[add]; omega,?_⟩
   simp only[List.take_succ_cons,z09]
   exact⟨v1,v2.take (n*e),F1,F',by rw[hidx,List.take_length_add_append],hl,rfl,h1,h'⟩
end
end Go.Am
namespace Go.Am
abbrev Path:=List (Nat×Nat×Nat)
def h0b:C→Option Obj
 | .ar true t e ys=>if t<1000000000 then some ⟨t,e,ys⟩ else none
 | .op t e cs=>some ⟨t+1000000000,e,[cs]⟩
 | _=>none
def f0v:C→List (List C)→C
 | .ar true t e _,ys=> .ar true t e ys
 | .op t e _,[ys]=> .op t e ys
 | c,_=>c
theorem q1s {t e:Nat} {ys:List (List C)} {o:Obj} (h:h0b (.ar true t e ys)=some o):t<1000000000∧o=⟨t,e,ys⟩:=by
 simp only[h0b] at h
 split at h
 ·rename_i ht; injection h with h; exact⟨ht,h.symm⟩
 ·cases h
def getA (t e:Nat) (xs:List (List C)):Path→Option Obj
 | []=>some ⟨t,e,xs⟩
 | (e',i,f) :: r=>
   if e'=e then
    match xs[i]? with
    | some row=>
      match row[f]? with
      | some c=>match h0b c with
        | some o=>getA o.t o.e o.xs r
        | none=>none
      | none=>none
    | none=>none
   else none
def setA (xs:List (List C)):Path→List (List C)→List (List C)
 | [],ys=>ys
 | (_,i,f) :: r,ys=>
   match xs[i]? with
   | some row=>
     match row[f]? with
     | some c=>match h0b c with
       | some o=>xs.set i (row.set f (f0v c (setA o.xs r ys)))
       | none=>xs
     | none=>xs
   | none=>xs
theorem c0t (xs:List (List C)) (st:Path) (ys:List (List C)) (h:st≠[]):(setA xs st ys).length=xs.length:=by
 cases st with
 | nil=>exact absurd rfl h
 | cons s r=>
   obtain⟨e,i,f⟩:=s
   simp only[setA]
   split
   ·split
    ·split <;> simp
    ·rfl
   ·rfl
section
variable {w:World} {N:Nat→Prop} {lc:Loc}
theorem w0c {cur:Array Value} {n k:Nat} {v:Value} (h:(cur.toList.take n)[k]?=some v):cur[k]?=some v:=by
 rw[List.getElem?_take] at h
 split at h
 ·simpa using h
 ·cases h
theorem y07 {b k:Nat} {cur:Array Value} {t:Nat} {fr:Nat×Nat} (h:w.heap[b]?=some (.cells cur t fr)):w.cell? ⟨b,k,none⟩=cur[k]?:=by
 simp[World.cell?,h]
theorem u1g {c:C} {o2:Obj} {v:Value} {G1:Fp} {b cap e i f:Nat} (hn:h0b c=some o2) (hrep:repC w N c v G1) (hcell:w.cell? ⟨b,i*e+f,none⟩=some v) :
 v.oneCell'=true∧∃l2,repO w N l2 o2.t o2.e o2.xs G1∧(∀r,resF w (some (b,cap)) ((e,i,f) :: r)=resF w l2 r)∧
  (∀(w':World) (N':Nat→Prop) (zs:List (List C)) (G:Fp),zs.length=o2.xs.length→repO w' N' l2 o2.t o2.e zs G→repC w' N' (f0v c zs) v G):=by
 cases c with
 | ar own t2 e2 ys=>
   cases own with
   | false=>cases hn
   | true=>
     obtain⟨ht,rfl⟩:=q1s hn
     rcases t0o hrep with⟨rfl,a2,rfl⟩ | ⟨b2,cap2,cur2,G',hp2,rfl,hb2,hl2,hc2,hs2,hr2,rfl⟩
     ·refine⟨rfl,none,.inl ⟨rfl,rfl⟩,fun r=>by rw[t1k hcell,e0d],fun w' N' zs G hz h=>?_⟩
      have hz0:zs=[]:=List.eq_nil_of_length_eq_zero (by simpa using hz)
      subst hz0
      rcases h with⟨_,_,rfl⟩ | ⟨b3,cap3,cur3,G3,h,_⟩
      ·simp only[f0v,repC]
       exact .inl ⟨by trivial,a2,rfl⟩
      ·cases h
     ·refine⟨rfl,some (b2,cap2),.inr ⟨b2,cap2,cur2,G',rfl,by rw[p04 ht]; exact hb2,hl2,i0i ht hc2,hs2,hr2,rfl⟩,fun r=>?_,fun w' N' zs G hz h=>?_⟩
      ·simp only[resF,hcell]
       rw[if_neg (by omega)]
      ·rcases h with⟨h,_⟩ | ⟨b3,cap3,cur3,G3,h,hb3,hl3,hc3,hs3,hr3,rfl⟩
       ·cases h
       ·injection h with h; injection h with h1 h2; subst h1; subst h2
        rw[p04 ht] at hb3
        simp only[f0v,repC]
        exact .inr ⟨b2,cap2,cur3,G3,by rw[hz],hb3,hl3,hc3.1,hs3,hr3,rfl⟩
 | op t2 e2 cs=>
   injection hn with hn
   subst hn
   simp only[repC] at hrep
   obtain⟨b2,cur2,G',rfl,hb2,hl2,hs2,hr2,rfl⟩:=hrep
   refine⟨rfl,some (b2,1),.inr ⟨b2,1,cur2,G',rfl,by rw[g01]; exact hb2,by simp,⟨by simp[maxLen],fun _=>rfl⟩,by simpa using hs2,?_,rfl⟩,fun r=>?_,fun w' N' zs G hz h=>?_⟩
   ·simp only[List.length_singleton,Nat.one_mul,z09]
    exact⟨cur2.toList.take e2,[],G',fz,by simp,hl2,(z0g _).symm,hr2,rfl,rfl⟩
   ·simp only[resF,hcell]
   ·match zs,hz with
    | [z],_=>
      rcases h with⟨h,_⟩ | ⟨b3,cap3,cur3,G3,h,hb3,hl3,hc3,hs3,hr3,rfl⟩
      ·cases h
      ·injection h with h; injection h with h1 h2; subst h1; subst h2
       rw[g01] at hb3
       simp only[Nat.one_mul] at hs3
       simp only[List.length_singleton,Nat.one_mul,z09] at hr3
       obtain⟨v1,v2,F1,F2,hv,hl,rfl,hr,rfl,rfl⟩:=hr3
       rw[List.append_nil] at hv
       subst hv
       simp only[f0v,repC]
       exact⟨b2,cur3,F1,rfl,hb3,hl,hs3,hr,by rw[z0g]⟩
 | _=>cases hn
theorem v0v: ∀(st:Path) {l:Option (Nat×Nat)} {t e:Nat} {xs:List (List C)} {F:Fp} {o:Obj},repO w N l t e xs F→getA t e xs st=some o→
 ∃l' F0 F1,resF w l st=l'∧repO w N l' o.t o.e o.xs F0∧F=add F0 F1∧
  ∀(w':World) (N':Nat→Prop) (ys:List (List C)) (F0':Fp),ys.length=o.xs.length→(∀b,1≤F1 b∨N b→w'.heap[b]?=w.heap[b]?)→(∀b,N b→N' b)→
   repO w' N' l' o.t o.e ys F0'→repO w' N' l t e (setA xs st ys) (add F0' F1)
 | [],l,t,e,xs,F,o,h,hg=>by
   simp only[getA,Option.some.injEq] at hg
   subst hg
   exact⟨l,F,fz,rfl,h,(z0g F).symm,fun w' N' ys F0' _ _ _ h'=>by rw[z0g]; exact h'⟩
 | (e',i,f) :: r,l,t,e,xs,F,o,h,hg=>by
   simp only[getA] at hg
   split at hg
   case isFalse=>cases hg
   rename_i he
   subst he
   cases hrow:xs[i]? with
   | none=>rw[hrow] at hg; simp at hg
   | some row=>
     rw[hrow] at hg
     simp only at hg
     cases hcell:row[f]? with
     | none=>rw[hcell] at hg; simp at hg
     | some c=>
       rw[hcell] at hg
       simp only at hg
       cases hn:h0b c with
       | none=>rw[hn] at hg; simp at hg
       | some o2=>
         rw[hn] at hg
         simp only at hg
         rcases h with⟨_,rfl,_⟩ | ⟨b,cap,cur,F',rfl,hb,hl,hc,hs,hr,rfl⟩
         ·simp at hrow
         ·obtain⟨v,G1,G2,hv,rfl,hrep,hfe,hset⟩:=r0d hr hrow hcell
          have hcv:cur[i*e'+f]?=some v:=w0c hv
          have hcell':w.cell? ⟨b,i*e'+f,none⟩=some v:=by rw[y07 hb]; exact hcv
          obtain⟨_,l2,hO,hres,hback⟩:=u1g (cap:=cap) hn hrep hcell'
          obtain⟨l',F0,F1,hl',hO',rfl,hrep'⟩:=v0v r hO hg
          refine⟨l',F0,add F1 (add (Am.one b) G2),?_,hO',?_,fun w' N' zs F0' hz hk hN h'=>?_⟩
          ·exact (hres r).trans hl'
          ·funext x; simp only[add]; omega
          ·have h2:=hrep' w' N' zs F0' hz (fun x hx=>hk x (hx.imp_left fun h=>by simp only[add]; omega)) hN h'
           have hlen2:(setA o2.xs r zs).length=o2.xs.length:=by
            cases r with
            | nil=>
              simp only[getA,Option.some.injEq] at hg
              subst hg
              simpa [setA] using hz
            | cons s r=>exact c0t _ _ _ (by simp)
           have h3:=hback w' N' (setA o2.xs r zs) (add F0' F1) hlen2 h2
           have h4:=hset w' N' (f0v c (setA o2.xs r zs)) v (add F0' F1) (fun x hx=>hk x (hx.imp_left fun h=>by simp only[add]; omega)) hN h3
           have hvs:(cur.toList.take (xs.length*e')).set (i*e'+f) v=cur.toList.take (xs.length*e'):=by
            apply List.ext_getElem?
            intro k
            rw[List.getElem?_set]
            split
            ·rename_i hk'
             subst hk'
             split
             ·exact hv.symm
             ·rename_i hn
              rw[List.getElem?_eq_none (by omega)]
            ·rfl
           rw[hvs] at h4
           simp only[setA,hrow,hcell,hn]
           refine .inr ⟨b,cap,cur,add (add F0' F1) G2,rfl,?_,by simpa using hl,hc,hs,?_,?_⟩
           ·rw[hk b (.inl (by simp[add,Am.one]; omega))]; exact hb
           ·rw[List.length_set]; exact h4
           ·funext x; simp only[add]; omega
end
section
variable {w w':World} {N N':Nat→Prop} {lc lc':Loc}
theorem v0u (st:Path) {l:Option (Nat×Nat)} {t e:Nat} {xs:List (List C)} {F:Fp} {o:Obj} (h:repO w N l t e xs F) (hg:getA t e xs st=some o) :
 ∃l' F0 F1,(l'=none∨resF w l st=l')∧repO w N l' o.t o.e o.xs F0∧F=add F0 F1∧
  ∀(w':World) (N':Nat→Prop) (ys:List (List C)) (F0':Fp),ys.length=o.xs.length→(∀b,1≤F1 b∨N b→w'.heap[b]?=w.heap[b]?)→(∀b,N b→N' b)→
   repO w' N' l' o.t o.e ys F0'→repO w' N' l t e (setA xs st ys) (add F0' F1):=
 let ⟨l',F0,F1,h1,h2⟩:=v0v st h hg
 ⟨l',F0,F1,.inr h1,h2⟩
theorem t1h {l:Option (Nat×Nat)} {t e:Nat} {xs:List (List C)} {F:Fp} (hk: ∀b,1≤F b∨N b→w'.heap[b]?=w.heap[b]?) (hN: ∀b,N b→N' b) (h:repO w N l t e xs F) :
 repO w' N' l t e xs F:=by
 rcases h with h | ⟨b,cap,cur,F',hl,hb,hn,hc,hs,hr,rfl⟩
 ·exact .inl h
 ·exact .inr ⟨b,cap,cur,F',hl,(hk b (.inl (by simp[add,Am.one]))).trans hb,hn,hc,hs,x0a e xs _ F' (fun x hx=>hk x (hx.imp_left fun h=>by simp only[add]; omega)) hN hr,rfl⟩
theorem y0q: ∀(ob:List (Nat×Obj)) (F:Fp),(∀b,1≤F b∨N b→w'.heap[b]?=w.heap[b]?)→(∀b,N b→N' b)→(∀id o,(id,o)∈ob→lc' id=lc id)→
 y03 w N lc ob F→y03 w' N' lc' ob F
 | [],_,_,_,_,h=>h
 | (id,o) :: r,F,hk,hN,hl,h=>by
   simp only[y03] at h ⊢
   obtain⟨F1,F2,rfl,h1,h2⟩:=h
   refine⟨F1,F2,rfl,?_,y0q r F2 (fun b hb=>hk b (hb.imp_left fun h=>by simp only[add]; omega)) hN (fun i o' hm=>hl i o' (List.mem_cons_of_mem _ hm)) h2⟩
   rw[hl id o (List.mem_cons_self ..)]
   exact t1h (fun b hb=>hk b (hb.imp_left fun h=>by simp only[add]; omega)) hN h1
theorem p0w (d:Nat): ∀(r:List (Nat×Obj)) (F2:Fp),y03 w N lc r F2→∃G,(∀b,G b≤F2 b)∧y03 w N lc (del r d) G
 | [],F2,h=>⟨F2,fun _=>Nat.le_refl _,h⟩
 | (k',y) :: r,F2,h=>by
   simp only[y03] at h
   obtain⟨G1,G2,rfl,g1,g2⟩:=h
   obtain⟨G,hG,hr⟩:=p0w d r G2 g2
   simp only[del]
   split
   ·exact⟨G,fun b=>by have:=hG b; simp only[add]; omega,hr⟩
   ·simp only[y03]
    exact⟨add G1 G,fun b=>by have:=hG b; simp only[add]; omega,G1,G,rfl,g1,hr⟩
theorem y0d: ∀(ob:List (Nat×Obj)) (F:Fp) (d:Nat) (o:Obj),look ob d=some o→y03 w N lc ob F→
 ∃F1 F2,(∀b,F1 b+F2 b≤F b)∧repO w N (lc d) o.t o.e o.xs F1∧y03 w N lc (del ob d) F2
 | [],_,_,_,hl,_=>by simp[look] at hl
 | (k,x) :: r,F,d,o,hl,h=>by
   simp only[y03] at h
   obtain⟨F1,F2,rfl,h1,h2⟩:=h
   simp only[look] at hl
   split at hl
   ·rename_i hkd
    subst hkd
    injection hl with hl
    subst hl
    obtain⟨G,hG,hr⟩:=p0w k r F2 h2
    refine⟨F1,G,fun b=>by have:=hG b; simp only[add]; omega,h1,?_⟩
    simp only[del,if_true]
    exact hr
   ·rename_i hkd
    obtain⟨G1,G2,hG,g1,g2⟩:=y0d r F2 d o hl h2
    refine⟨G1,add F1 G2,fun b=>by have:=hG b; simp only[add]; omega,g1,?_⟩
    simp only[del,if_neg hkd,y03]
    exact⟨F1,G2,rfl,h1,g2⟩
theorem h07 {α:Type} (d:Nat): ∀r:List (Nat×α),∀k a,(k,a)∈del r d→k≠d
 | [],_,_,h=>by simp[del] at h
 | (k',y) :: r,k,a,h=>by
   simp only[del] at h
   split at h
   ·exact h07 d r k a h
   ·rename_i hk
    rcases List.mem_cons.1 h with h | h
    ·injection h with h1 _; subst h1; exact hk
    ·exact h07 d r k a h
theorem p0x {d:Nat} {o:Obj} {r:List (Nat×Obj)} {F1 F2:Fp} (h1:repO w N (lc d) o.t o.e o.xs F1) (h2:y03 w N lc r F2) :
 ∃F',(∀b,F' b≤F1 b+F2 b)∧y03 w N lc (put r d o) F':=by
 obtain⟨G,hG,hr⟩:=p0w d r F2 h2
 refine⟨add F1 G,fun b=>by have:=hG b; simp only[add]; omega,?_⟩
 simp only[put,y03]
 exact⟨F1,G,rfl,h1,hr⟩
theorem j0r {d:Nat} {l:Option (Nat×Nat)}: ∀(r:List (Nat×Obj)) (F:Fp),(∀k a,(k,a)∈r→k≠d)→y03 w N lc r F→y03 w N (fun i=>if i=d then l else lc i) r F
 | [],_,_,h=>h
 | (k,a) :: r,F,hd,h=>by
   simp only[y03] at h ⊢
   obtain⟨F1,F2,rfl,h1,h2⟩:=h
   refine⟨F1,F2,rfl,?_,j0r r F2 (fun k' a' hm=>hd k' a' (List.mem_cons_of_mem _ hm)) h2⟩
   rw[if_neg (hd k a (List.mem_cons_self ..))]
   exact h1
end
end Go.Am
