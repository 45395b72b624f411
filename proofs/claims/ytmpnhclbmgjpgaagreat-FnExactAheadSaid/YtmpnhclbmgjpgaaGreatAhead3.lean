/- Text 3 for FnExactAhead. -/
import Derived.Test.YtmpnhclbmgjpgaaGreatAhead2
set_option linter.unusedVariables false
set_option linter.unusedSimpArgs false
namespace Go.Am
open Go.Proofs
set_option maxHeartbeats 4000000
set_option maxRecDepth 100000
attribute [-simp] BitVec.toNat_or BitVec.toNat_and BitVec.toNat_ofInt
section
theorem x05 {α:Type} {p:α→Bool} {xs:List α} {i:Nat} (h:i<xs.length):(xs.drop i).all p=(p xs[i] && (xs.drop (i+1)).all p):=by
 rw[List.drop_eq_getElem_cons h,List.all_cons]
theorem x0w {α:Type} {p:α→Bool} {xs:List α} {i:Nat} (h: ¬i<xs.length):(xs.drop i).all p=true:=by
 rw[List.drop_eq_nil_of_le (by omega),List.all_nil]
def y0o (n:Nat) (x:Int):Bool:=inr x 0 25 || inr x 100 (99+n)
def p02 (n:Nat) (row:List Int):Bool:=decide (row.length≤8) && row.all (y0o n)
def v0b (n:Nat) (alts:List (List Int)):Bool:=inr alts.length 1 8 && alts.all (p02 n)
def y02 (g:TGram):Bool:=inr g.parts.length 1 20 && g.parts.all (v0b g.parts.length)
end
section
def ordC (a b:TConf):Int:=orI [ordI a.alt b.alt,ordL a.row b.row]
theorem u0g {a b:TConf}:ordC a b=0↔a=b:=by
 obtain⟨a1,a2⟩:=a
 obtain⟨b1,b2⟩:=b
 simp only[ordC,orI,TConf.mk.injEq]
 by_cases h:ordI a1 b1=0
 ·rw[if_pos h]
  have h1:=h0f.1 h
  by_cases h2:ordL a2 b2=0
  ·have h3:=c0g.1 h2
   subst h3
   simp[h2,h1]
  ·have: ¬a2=b2:=fun e=>h2 (c0g.2 e)
   simp[h2,this]
 ·have: ¬a1=b1:=fun e=>h (h0f.2 e)
  simp[h,this]
def d1l:K:=dc 0x41130534900bca854910010910c11903c00423c20461810031040b904104038238d2cf10d3000423030062ca00108a08018504000310407904104024224818d1081c00421c30061850010850801850400040390430428a82020028a8203040
def k19:Nat×List RV:=(20,[.t 4])
theorem c_183:z01 PA 183 k19 d1l:=by unfold z01; kernel_rfl
theorem p0j (a b:TConf) (ha:y0f a<2 ^ 40):z06 Tryz.prog 183 [.agg (z0k a),.agg (z0k b)] (aI (ordC a b)):=by
 refine Prun c_183 (by simp[k19]) (by simp) ?_
 (conv in d1l=>reduce); unfold k19
 simp only[y0f,v09] at ha
 simp[z0k]
 by_cases c1:a.alt<b.alt
 ·simp[c1,ordC,orI,ordI]
 ·by_cases c2:b.alt<a.alt
  ·simp[c1,c2,ordC,orI,ordI]
  ·have e:ordC a b=ordL a.row b.row:=by
    have:ordI a.alt b.alt=0:=by unfold ordI; rw[if_neg c1,if_neg c2]
    simp only[ordC,orI,this,if_true]
    split <;> simp_all
   simp[c1,c2]
   refine z00 (k0c a.row b.row (by omega)) (by simp) ?_
   simp[e]
def b1b:K:=dc 0x10440140f07cac53ce2420010cf38d2c2aa814d3000423030462ca00108a08118920609da452070010870c018614004214200634a0080040390430428a82020028a8203040
def j1x:Nat×List RV:=(17,[.t 4])
theorem c_264:z01 PA 264 j1x b1b:=by unfold z01; kernel_rfl
theorem t02 (a b:TConf) (ha:y0f a<2 ^ 40):z06 Tryz.prog 264 [.agg (z0k a),.agg (z0k b)] (aI (ordC a b)):=by
 refine Prun c_264 (by simp[j1x]) (by simp) ?_
 (conv in b1b=>reduce); unfold j1x
 simp only[y0f,v09] at ha
 simp[z0k]
 refine⟨_,by simp,o0w _ _,?_⟩
 simp
 refine⟨_,by simp,m0n a.row b.row (by omega),?_⟩
 simp
 refine z00 (n1g [ordI a.alt b.alt,ordL a.row b.row] (by simp)) (by simp) ?_
 simp[ordC]
def b10:K:=dc 0x104201200e472c41c614282b1460c108214204208504013a0430428a82020028a8203040
def j1m:Nat×List RV:=(9,[.t 4])
theorem c_244:z01 PA 244 j1m b10:=by unfold z01; kernel_rfl
theorem m0m (a b:TConf) (ha:y0f a<2 ^ 40):z06 Tryz.prog 244 [.agg (z0k a),.agg (z0k b)] (aB (decide (a=b))):=by
 refine Prun c_244 (by simp[j1m]) (by simp) ?_
 (conv in b10=>reduce); unfold j1m
 simp[z0k]
 refine z00 (t02 a b ha) (by simp) ?_
 by_cases h:a=b
 ·simp[h,u0g.2 rfl]
 ·have: ¬ordC a b=0:=fun e=>h (u0g.1 e)
  simp[h,this]
def d1w:K:=dc 0x413b0410401500500b93c010f1400c10c413a041040682680e593046585023ea1585c10825d65421d61405410144c10824d24421d214044000a28020004500018338238d2cd10d30330000b1401010000371410041410031c0145039041040003104e8104100a08a2473042480c80401c60c600014100013a041040
def k1k:Nat×List RV:=(27,[.t 4])
theorem c_199:z01 PA 199 k1k d1w:=by unfold z01; kernel_rfl
theorem q0c (xs ys:List TConf) (hx:wL y0f xs<2 ^ 40):z06 Tryz.prog 199 [.one (.ar false 0 2 (xs.map z0k)),.one (.ar false 0 2 (ys.map z0k))] (aB (decide (xs=ys))):=by
 refine Prun c_199 (by simp[k1k]) (by simp) ?_
 (conv in d1w=>reduce); unfold k1k
 have hlen:=z0a y0f xs
 by_cases hl:xs.length=ys.length
 ·simp[hl]
  refine z04 (fun n σ=>∃i:Nat,i≤xs.length∧n=xs.length - i∧xs.take i=ys.take i∧σ=⟨[(0,.one (.ar false 0 2 (xs.map z0k))),(1,.one (.ar false 0 2 (ys.map z0k))),(5,aI i)],[]⟩) (xs.length) ⟨0,by simp⟩ ?_
  rintro n σ ⟨i,hi,rfl,ht,rfl⟩
  by_cases h:i<xs.length
  ·have h2:i<ys.length:=by omega
   have hw:=z0x y0f xs i h
   simp[h,h2,z0k]
   refine⟨_,by simp,p0j xs[i] ys[i] (by omega),?_⟩
   by_cases he:xs[i]=ys[i]
   ·simp[u0g.2 he]
    refine⟨xs.length - (i+1),by omega,i+1,by omega,rfl,(e0u h h2).2 ⟨ht,he⟩,?_⟩
    rw[z08 (by omega) (by omega)]
    simp
   ·have: ¬ordC xs[i] ys[i]=0:=fun e=>he (u0g.1 e)
    simp[this]
    intro hh
    subst hh
    exact he rfl
  ·simp[h]
   have:i=xs.length:=by omega
   rw[this,List.take_length,hl,List.take_length] at ht
   exact ht
 ·have: ¬(xs.length:Int)=ys.length:=by omega
  simp[this]
  rintro rfl
  exact hl rfl
end
section
def renGr:Shelf.Ren:=⟨fun _=>189,fun k=>if k=22 then 54 else if k=25 then 3 else if k=20 then 20 else if k=0 then 0 else if k=3 then 3 else if k=4 then 4 else if k=9 then 9 else k,fun k=>k⟩
theorem a1f:Lays8.n4 Tryz.prog renGr where
 mixed:=by kernel_rfl
 f4:=⟨((Tryz.prog.funcs[189]?).map (·.name)).getD "",by kernel_rfl,by kernel_rfl⟩
 t0:=Tryz.underlying0
 a0:=Tryz.isAgg0
 z0:=Tryz.sizeOf0
 v0:=Tryz.zeroValue0
 t3:=Tryz.underlying3
 a3:=Tryz.isAgg3
 z3:=Tryz.sizeOf3
 v3:=Tryz.zeroValue3
 t4:=Tryz.underlying4
 a4:=Tryz.isAgg4
 z4:=Tryz.sizeOf4
 v4:=Tryz.zeroValue4
 t9:=Tryz.underlying9
 a9:=Tryz.isAgg9
 z9:=Tryz.sizeOf9
 v9:=Tryz.zeroValue9
 t20:=Tryz.underlying20
 a20:=Tryz.isAgg20
 z20:=Tryz.sizeOf20
 v20:=Tryz.zeroValue20
 t22:=Tryz.underlying54
 a22:=Tryz.isAgg54
 z22:=Tryz.sizeOf54
 v22:=Tryz.zeroValue54
theorem f1i (n:Nat) (hn:n≤4294967296):z06 Tryz.prog 189 [.one (.ar true 3 1 []),aI n] (.one (.ar true 3 1 [])):=by
 obtain⟨i,h1,h2,h3,h4⟩:=info_parts (show (Tryz.prog.info? 3).map (fun i=>(i.zero,i.size,i.bytes))=some (some (.int .i64 0),1,8) by kernel_rfl)
 exact d0s a1f i _ h1 h2 h3 rfl (by omega) n hn
def e1k:K:=dc 0x1028c18c60020406e20220b96c01020468418607c02010ce80801f18010121e05e74004275b6411c30400c500218370201c69b344041000dc60036da6461070856c0e406990d90000c10001980585c10c10fc08156a6170c00c100b580582e4b0040810ff502500e533444c30020400d205244f0044500d01403c300504014e04e34004234b2411c304004500018330200c28b344041000dc30032ca2430051c014b03900a2432400030400030390410400810c10fc041040
def l18:Nat×List RV:=(36,[.t 2])
theorem c_137:z01 PA 137 l18 e1k:=by unfold z01; kernel_rfl
theorem i0u (xs ys:List Int) (hx:xs.length<2 ^ 30) (hy:ys.length<2 ^ 30):z06 Tryz.prog 137 [.one (.ar false 0 1 [[.ar false 0 1 (xs.map rI)],[.ar false 0 1 (ys.map rI)]])] (.one (.ar true 3 1 ((xs ++ ys).map rI))):=by
 refine Prun c_137 (by simp[l18]) (by simp) ?_
 (conv in e1k=>reduce); unfold l18
 have hg:=f1i (xs.length+ys.length) (by omega)
 have w1:IntKind.i64.wrap (xs.length:Int)=xs.length:=z08 (by omega) (by omega)
 have w2:IntKind.i64.wrap ((xs.length:Int)+ys.length)=xs.length+ys.length:=z08 (by omega) (by omega)
 have wa:IntKind.i64.wrap 1=1:=z08 (by omega) (by omega)
 have wb:IntKind.i64.wrap 2=2:=z08 (by omega) (by omega)
 have n1: ¬(xs.length:Int)<0:=by omega
 have n2: ¬(xs.length:Int)+ys.length<0:=by omega
 simp
 refine z04 (fun n σ=>(n=2∧σ=⟨[(0,.one (.ar false 0 1 [[.ar false 0 1 (xs.map rI)],[.ar false 0 1 (ys.map rI)]])),(3,aI 0),(9,.one (.ar false 0 1 [[.ar false 0 1 (xs.map rI)],[.ar false 0 1 (ys.map rI)]])),(10,aI 2),(11,aI 0)],[]⟩)∨(n=1∧σ=⟨[(0,.one (.ar false 0 1 [[.ar false 0 1 (xs.map rI)],[.ar false 0 1 (ys.map rI)]])),(3,aI xs.length),(9,.one (.ar false 0 1 [[.ar false 0 1 (xs.map rI)],[.ar false 0 1 (ys.map rI)]])),(10,aI 2),(11,aI 1)],[]⟩)∨(n=0∧σ=⟨[(0,.one (.ar false 0 1 [[.ar false 0 1 (xs.map rI)],[.ar false 0 1 (ys.map rI)]])),(3,aI (xs.length+ys.length)),(9,.one (.ar false 0 1 [[.ar false 0 1 (xs.map rI)],[.ar false 0 1 (ys.map rI)]])),(10,aI 2),(11,aI 2)],[]⟩)) 2 (by simp) ?_
 rintro n σ (⟨rfl,rfl⟩ | ⟨rfl,rfl⟩ | ⟨rfl,rfl⟩)
 ·simp[w1,wa,n1]
 ·simp[w2,wb,n2]
 simp
 refine z0c hg (by simp) ?_
 have hb1:xs.length≤4294967296:=by omega
 have hb2:xs.length+ys.length≤4294967296:=by omega
 simp
 refine z04 (fun n σ=>(n=2∧σ=⟨[(6,.one (.vw 3 1 6 [] 0 0)),(25,.one (.ar false 0 1 [[.ar false 0 1 (xs.map rI)],[.ar false 0 1 (ys.map rI)]])),(26,aI 2),(27,aI 0)],[(6,⟨3,1,[]⟩)]⟩)∨(n=1∧σ=⟨[(6,.one (.vw 3 1 6 [] 0 xs.length)),(25,.one (.ar false 0 1 [[.ar false 0 1 (xs.map rI)],[.ar false 0 1 (ys.map rI)]])),(26,aI 2),(27,aI 1)],[(6,⟨3,1,xs.map rI⟩)]⟩)∨(n=0∧σ=⟨[(6,.one (.vw 3 1 6 [] 0 (xs.length+ys.length))),(25,.one (.ar false 0 1 [[.ar false 0 1 (xs.map rI)],[.ar false 0 1 (ys.map rI)]])),(26,aI 2),(27,aI 2)],[(6,⟨3,1,(xs ++ ys).map rI⟩)]⟩)) 2 (by simp) ?_
 rintro n σ (⟨rfl,rfl⟩ | ⟨rfl,rfl⟩ | ⟨rfl,rfl⟩)
 ·simp[wa,hb1]
 ·simp[wb,hb2]
 ·simp
  rw[List.take_of_length_le (by simp),List.take_of_length_le (by simp)]
end
section
structure TJob where
 ticket:Int
 gram:Int
 input:List Int
 run:TRun
 deriving DecidableEq,Inhabited
def rJob (a:TJob):List C:=[cI a.ticket,cI a.gram,.ar true 3 1 (a.input.map rI),cI a.run.code,cI a.run.pos,cI a.run.look,cI a.run.cost,.ar true 203 2 (a.run.slots.map w01),.ar true 282 5 (a.run.tree.nodes.map x0m),.ar true 222 3 (a.run.errs.map rErr)]
def sJob (a:TJob):List C:=[cI a.ticket,cI a.gram,.ar false 0 1 (a.input.map rI),cI a.run.code,cI a.run.pos,cI a.run.look,cI a.run.cost,.ar false 0 2 (a.run.slots.map x0v),.ar false 0 5 (a.run.tree.nodes.map x0g),.ar false 0 3 (a.run.errs.map sErr)]
def zJob:List C:=[cI 0,cI 0,.ar true 3 1 [],cI 0,cI 0,cI 0,cI 0,.ar true 203 2 [],.ar true 282 5 [],.ar true 222 3 []]
@[simp] theorem rJob_len (a:TJob):(rJob a).length=10:=rfl
@[simp] theorem sJob_len (a:TJob):(sJob a).length=10:=rfl
@[simp] theorem p19 (a:TJob):y04 (rJob a)=sJob a:=by simp[rJob,sJob]
@[simp] theorem p1d (a:TJob):y04 (sJob a)=sJob a:=by simp[sJob]
@[simp] theorem z2p (xs:List TJob):z0i (xs.map rJob)=xs.map sJob:=z0p p19 xs
@[simp] theorem z2t (xs:List TJob):z0i (xs.map sJob)=xs.map sJob:=z0p p1d xs
@[simp] theorem a1n (xs:List TJob):y0c (xs.map rJob)=true:=w0e (fun a=>by simp[rJob]) xs
def wJob (a:TJob):Nat:=wL w0 a.input+wRun a.run
def lJob (a:TJob):Prop:=lL l0 a.input∧lRun a.run
end
section
structure TTenant where
 quantum:Int
 cls:Int
 budget:Int
 used:Int
 wait:Int
 turns:Int
 next:Int
 due:Int
 queue:List TJob
 out:List TOutcome
 deriving DecidableEq,Inhabited
def v04 (a:TTenant):List C:=[cI a.quantum,cI a.cls,cI a.budget,cI a.used,cI a.wait,cI a.turns,cI a.next,cI a.due,.ar true 63 10 (a.queue.map rJob),.ar true 49 3 (a.out.map x0s)]
def z07 (a:TTenant):List C:=[cI a.quantum,cI a.cls,cI a.budget,cI a.used,cI a.wait,cI a.turns,cI a.next,cI a.due,.ar false 0 10 (a.queue.map sJob),.ar false 0 3 (a.out.map z0u)]
def o0r:List C:=[cI 0,cI 0,cI 0,cI 0,cI 0,cI 0,cI 0,cI 0,.ar true 63 10 [],.ar true 49 3 []]
@[simp] theorem m1h (a:TTenant):(v04 a).length=10:=rfl
@[simp] theorem h19 (a:TTenant):(z07 a).length=10:=rfl
@[simp] theorem c0x (a:TTenant):y04 (v04 a)=z07 a:=by simp[v04,z07]
@[simp] theorem c0y (a:TTenant):y04 (z07 a)=z07 a:=by simp[z07]
@[simp] theorem o1c (xs:List TTenant):z0i (xs.map v04)=xs.map z07:=z0p c0x xs
@[simp] theorem o1d (xs:List TTenant):z0i (xs.map z07)=xs.map z07:=z0p c0y xs
@[simp] theorem o16 (xs:List TTenant):y0c (xs.map v04)=true:=w0e (fun a=>by simp[v04]) xs
def y0b (a:TTenant):Nat:=wL wJob a.queue+wL y06 a.out
def q0r (a:TTenant):Prop:=lL lJob a.queue∧lL r0t a.out
end
section
def c1z:K:=dc 0x106ec10410117c07c2e510040810c41ba04104078279d25d71b09a99c2410826c804209a08014101924008bf090430430000020a2a126580420985d60875c701604018101520008bf074c12010c10c00000828a84955010825113c21d34401810011400060d208049044d1010400b70770370810064503c20451c01510390103c33c0003040003106e8104100e08e34b30434c0cc0402ca0ca0001410001ba041040
def j1l:Nat×List RV:=(32,[.t 6])
theorem c_243:z01 PA 243 j1l c1z:=by unfold z01; kernel_rfl
theorem z1w (f:Nat) (hf:PF.contains f=true) (xs ys:List TConf) (hx:xs.length<2 ^ 40) (hc: ∀i j (h:i<xs.length) (h2:j<ys.length),z06 Tryz.prog f [.agg (z0k xs[i]),.agg (z0k ys[j])] (aB (decide (xs[i]=ys[j])))) :
 z06 Tryz.prog 243 [.one (.ar false 0 2 (xs.map z0k)),.one (.ar false 0 2 (ys.map z0k)),.one (.fn f [])] (aB (decide (xs=ys))):=by
 refine Prun c_243 (by simp[j1l]) (by simp) ?_
 (conv in c1z=>reduce); unfold j1l
 have hok:=x1k f hf
 by_cases hl:xs.length=ys.length
 ·simp[hl]
  refine z04 (fun n σ=>∃i:Nat,i≤xs.length∧n=xs.length - i∧xs.take i=ys.take i∧σ=⟨[(1,.one (.ar false 0 2 (ys.map z0k))),(2,.one (.fn f [])),(15,.one (.ar false 0 2 (xs.map z0k))),(16,aI xs.length),(17,aI i)],[]⟩) (xs.length) ⟨0,by simp[hl]⟩ ?_
  rintro n σ ⟨i,hi,rfl,ht,rfl⟩
  by_cases h:i<xs.length
  ·have h2:i<ys.length:=by omega
   simp[h,h2,z0k,hok]
   refine z00 (hc i i h h2) (by simp) ?_
   by_cases he:xs[i]=ys[i]
   ·simp[he]
    refine⟨xs.length - (i+1),by omega,i+1,by omega,rfl,(e0u h h2).2 ⟨ht,he⟩,?_⟩
    rw[z08 (by omega) (by omega)]
    simp
   ·simp[he]
    intro hh
    subst hh
    exact he rfl
  ·simp[h]
   have:i=xs.length:=by omega
   rw[this,List.take_length,hl,List.take_length] at ht
   exact ht
 ·have: ¬(xs.length:Int)=ys.length:=by omega
  simp[this]
  rintro rfl
  exact hl rfl
end
section
structure THouse where
 age:Int
 cap:Int
 grams:List TGram
 stores:List TStore
 tenants:List TTenant
 deriving DecidableEq,Inhabited
def t0l (a:THouse):List C:=[cI a.age,cI a.cap,.ar true 66 1 (a.grams.map q0u),.ar true 155 2 (a.stores.map t06),.ar true 42 10 (a.tenants.map v04)]
def z0o (a:THouse):List C:=[cI a.age,cI a.cap,.ar false 0 1 (a.grams.map z0b),.ar false 0 2 (a.stores.map y0h),.ar false 0 10 (a.tenants.map z07)]
@[simp] theorem g18 (a:THouse):(t0l a).length=5:=rfl
@[simp] theorem g1e (a:THouse):(z0o a).length=5:=rfl
@[simp] theorem x14 (a:THouse):y04 (t0l a)=z0o a:=by simp[t0l,z0o]
@[simp] theorem x16 (a:THouse):y04 (z0o a)=z0o a:=by simp[z0o]
@[simp] theorem h1i (xs:List THouse):z0i (xs.map t0l)=xs.map z0o:=z0p x14 xs
@[simp] theorem h1k (xs:List THouse):z0i (xs.map z0o)=xs.map z0o:=z0p x16 xs
@[simp] theorem m16 (xs:List THouse):y0c (xs.map t0l)=true:=w0e (fun a=>by simp[t0l]) xs
def v07 (a:THouse):Nat:=wL z0q a.grams+wL y0k a.stores+wL y0b a.tenants
def s07 (a:THouse):Prop:=lL x0d a.grams∧lL p0l a.stores∧lL q0r a.tenants
end
section
def d18:K:=dc 0x104ec1041005401402e4f0043c5003043104e8104101a09a649658502b6a1585c00425d65411d61405410144c00424d24411d214044000a28020004500018338238d2cd10d30330000b1401010000371410041410031c0145039041040003104e8104100a08a2473042480c80401c60c600014100013a041040
def l1w:Nat×List RV:=(27,[.t 4])
theorem c_162:z01 PA 162 l1w d18:=by unfold z01; kernel_rfl
theorem z1z (xs:List (List (List Int))) (hx:wL (wL (wL w0)) xs<2 ^ 40):z06 Tryz.prog 162 [.one (.ar false 0 1 (xs.map sISS)),.one (.ar false 0 1 (xs.map sISS))] (aB true):=by
 refine Prun c_162 (by simp[l1w]) (by simp) ?_
 (conv in d18=>reduce); unfold l1w
 have hlen:=z0a (wL (wL w0)) xs
 simp
 refine z04 (fun n σ=>∃i:Nat,i≤xs.length∧n=xs.length - i∧σ=⟨[(0,.one (.ar false 0 1 (xs.map sISS))),(1,.one (.ar false 0 1 (xs.map sISS))),(5,aI i)],[]⟩) (xs.length) ⟨0,by simp⟩ ?_
 rintro n σ ⟨i,hi,rfl,rfl⟩
 by_cases h:i<xs.length
 ·have hw:=z0x (wL (wL w0)) xs i h
  simp[h,sISS]
  refine⟨_,by simp,v12 xs[i] (by omega),?_⟩
  simp
  refine⟨xs.length - (i+1),by omega,i+1,by omega,rfl,?_⟩
  rw[z08 (by omega) (by omega)]
  simp
 ·simp[h]
end
section
def e13:K:=dc 0x413b0410400c413a0410402822892492060baa452070010870c018614004214200618100013a0430416a82020016a8203040
def m1r:Nat×List RV:=(11,[.t 4])
theorem c_109:z01 PA 109 m1r e13:=by unfold z01; kernel_rfl
theorem r1p (a:TGram) (ha:z0q a<2 ^ 40):z06 Tryz.prog 109 [.agg (z0b a),.agg (z0b a)] (aB true):=by
 refine Prun c_109 (by simp[m1r]) (by simp) ?_
 (conv in e13=>reduce); unfold m1r
 simp only[z0q] at ha
 simp[z0b]
 refine z00 (z1z a.parts (by omega)) (by simp) ?_
 simp
end
section
def b1s:K:=dc 0x104ec1041003104e8104100f08f38938d2c24eb14d3000423030462ca00108a081186040003104e810410090892063042070010870c018614004214200614100013a0430428a82020028a8203040
def i1f:Nat×List RV:=(16,[.t 4])
theorem c_283:z01 PA 283 i1f b1s:=by unfold z01; kernel_rfl
theorem r1n (a:TConf) (ha:y0f a<2 ^ 40):z06 Tryz.prog 283 [.agg (z0k a),.agg (z0k a)] (aB true):=by
 refine Prun c_283 (by simp[i1f]) (by simp) ?_
 (conv in b1s=>reduce); unfold i1f
 simp only[y0f] at ha
 simp[z0k]
 refine z00 (n0o a.row (by omega)) (by simp) ?_
 simp
end
section
def b1v:K:=dc 0x104ec1041005401402e4f0043c5003043104e8104101a09a64965850226c1585c10c25d65431d61405410144c10c24d24431d214044000a28020004500018338238d2cd10d30330000b1401010000371410041410031c0145039041040003104e8104100a08a2473042480c80401c60c600014100013a041040
def i1i:Nat×List RV:=(27,[.t 4])
theorem c_286:z01 PA 286 i1i b1v:=by unfold z01; kernel_rfl
theorem r1o (xs:List TErr) (hx:wL wErr xs<2 ^ 40):z06 Tryz.prog 286 [.one (.ar false 0 3 (xs.map sErr)),.one (.ar false 0 3 (xs.map sErr))] (aB true):=by
 refine Prun c_286 (by simp[i1i]) (by simp) ?_
 (conv in b1v=>reduce); unfold i1i
 have hlen:=z0a wErr xs
 simp
 refine z04 (fun n σ=>∃i:Nat,i≤xs.length∧n=xs.length - i∧σ=⟨[(0,.one (.ar false 0 3 (xs.map sErr))),(1,.one (.ar false 0 3 (xs.map sErr))),(5,aI i)],[]⟩) (xs.length) ⟨0,by simp⟩ ?_
 rintro n σ ⟨i,hi,rfl,rfl⟩
 by_cases h:i<xs.length
 ·have hw:=z0x wErr xs i h
  simp[h,sErr]
  refine⟨_,by simp,n1h xs[i] (by omega),?_⟩
  simp
  refine⟨xs.length - (i+1),by omega,i+1,by omega,rfl,?_⟩
  rw[z08 (by omega) (by omega)]
  simp
 ·simp[h]
end
section
def b1t:K:=dc 0x104ec1041005401402e4f0043c5003043104e8104101a09a6496585021ec1585c10825d65421d61405410144c10824d24421d214044000a28020004500018338238d2cd10d30330000b1401010000371410041410031c0145039041040003104e8104100a08a2473042480c80401c60c600014100013a041040
def i1g:Nat×List RV:=(27,[.t 4])
theorem c_284:z01 PA 284 i1g b1t:=by unfold z01; kernel_rfl
theorem v15 (xs:List TSlot) (hx:wL x0c xs<2 ^ 40):z06 Tryz.prog 284 [.one (.ar false 0 2 (xs.map x0v)),.one (.ar false 0 2 (xs.map x0v))] (aB true):=by
 refine Prun c_284 (by simp[i1g]) (by simp) ?_
 (conv in b1t=>reduce); unfold i1g
 have hlen:=z0a x0c xs
 simp
 refine z04 (fun n σ=>∃i:Nat,i≤xs.length∧n=xs.length - i∧σ=⟨[(0,.one (.ar false 0 2 (xs.map x0v))),(1,.one (.ar false 0 2 (xs.map x0v))),(5,aI i)],[]⟩) (xs.length) ⟨0,by simp⟩ ?_
 rintro n σ ⟨i,hi,rfl,rfl⟩
 by_cases h:i<xs.length
 ·have hw:=z0x x0c xs i h
  simp[h,x0v]
  refine⟨_,by simp,r1t xs[i] (by omega),?_⟩
  simp
  refine⟨xs.length - (i+1),by omega,i+1,by omega,rfl,?_⟩
  rw[z08 (by omega) (by omega)]
  simp
 ·simp[h]
end
section
def a16:K:=dc 0x104ec1041005401402e4f0043c5003043104e8104101a09a6496585024ec1585c11425d65451d61405410144c11424d24451d214044000a28020004500018338238d2cd10d30330000b1401010000371410041410031c0145039041040003104e8104100a08a2473042480c80401c60c600014100013a041040
def i1t:Nat×List RV:=(27,[.t 4])
theorem c_304:z01 PA 304 i1t a16:=by unfold z01; kernel_rfl
theorem v14 (xs:List TNode) (hx:wL y0m xs<2 ^ 40):z06 Tryz.prog 304 [.one (.ar false 0 5 (xs.map x0g)),.one (.ar false 0 5 (xs.map x0g))] (aB true):=by
 refine Prun c_304 (by simp[i1t]) (by simp) ?_
 (conv in a16=>reduce); unfold i1t
 have hlen:=z0a y0m xs
 simp
 refine z04 (fun n σ=>∃i:Nat,i≤xs.length∧n=xs.length - i∧σ=⟨[(0,.one (.ar false 0 5 (xs.map x0g))),(1,.one (.ar false 0 5 (xs.map x0g))),(5,aI i)],[]⟩) (xs.length) ⟨0,by simp⟩ ?_
 rintro n σ ⟨i,hi,rfl,rfl⟩
 by_cases h:i<xs.length
 ·have hw:=z0x y0m xs i h
  simp[h,x0g]
  refine⟨_,by simp,r1s xs[i] (by omega),?_⟩
  simp
  refine⟨xs.length - (i+1),by omega,i+1,by omega,rfl,?_⟩
  rw[z08 (by omega) (by omega)]
  simp
 ·simp[h]
end
section
def b1u:K:=dc 0x413b0410400c413a041040282289249206088b052070010870c018614004214200618100013a0430414a82020014a8203040
def i1h:Nat×List RV:=(11,[.t 4])
theorem c_285:z01 PA 285 i1h b1u:=by unfold z01; kernel_rfl
theorem r1u (a:TTree) (ha:x0q a<2 ^ 40):z06 Tryz.prog 285 [.agg (u0v a),.agg (u0v a)] (aB true):=by
 refine Prun c_285 (by simp[i1h]) (by simp) ?_
 (conv in b1u=>reduce); unfold i1h
 simp only[x0q] at ha
 simp[u0v]
 refine z00 (v14 a.nodes (by omega)) (by simp) ?_
 simp
end
section
def c1f:K:=dc 0x104ec1041003104e810410130934903044910010910c21903c00423c20861410000c413a04104038238d2cc10d3000423030462ca00108a081185040003104e810410090892063042070010870c018614004214200614100013a043043268202003268203040
def j11:Nat×List RV:=(20,[.t 4])
theorem c_216:z01 PA 216 j11 c1f:=by unfold z01; kernel_rfl
theorem d0v (a:TOutcome) (ha:y06 a<2 ^ 40):z06 Tryz.prog 216 [.agg (z0u a),.agg (z0u a)] (aB true):=by
 refine Prun c_216 (by simp[j11]) (by simp) ?_
 (conv in c1f=>reduce); unfold j11
 simp only[y06] at ha
 simp[z0u]
end
section
def d1s:K:=dc 0x411a05a040081005441442e50004405003043104079041040642640e583446010020400570575950bfa855810155000425134811d31404800070400450001833c23ce30d10e34334000c1401010000371410041410031c01450390410400031040790410402c22c0e4a3442810020400012412481811081c31c0006040141004039041040
def k1g:Nat×List RV:=(27,[.t 4])
theorem c_195:z01 PA 195 k1g d1s:=by unfold z01; kernel_rfl
theorem v1l (xs:List (List Int)) (left:Int) (hl:lL (lL l0) xs) (h2:0≤left) (h3:left<2 ^ 40):z06 Tryz.prog 195 [.one (.ar false 0 1 (xs.map sIS)),aI left] (aI (lft left (wL (wL w0) xs))):=by
 refine Prun c_195 (by simp[k1g]) (by simp) ?_
 (conv in d1s=>reduce); unfold k1g
 have hlen:=hl.1
 have hlw:=z0a (wL w0) xs
 have w1:IntKind.i64.wrap (left - xs.length)=left - xs.length:=z08 (by omega) (by omega)
 by_cases h1:left - (xs.length:Int)<0
 ·rw[z0j (by omega)]
  simp[w1,h1]
 simp[w1,h1]
 refine z04 (fun n σ=>∃i:Nat,i≤xs.length∧n=xs.length - i∧(wL (wL w0) (xs.take i):Int) - i≤left - xs.length∧σ=⟨[(0,.one (.ar false 0 1 (xs.map sIS))),(1,aI (left - xs.length - ((wL (wL w0) (xs.take i):Int) - i))),(5,aI i)],[]⟩) (xs.length) ⟨0,by simp[wL]; omega⟩ ?_
 rintro n σ ⟨i,hi,rfl,hle,rfl⟩
 have hge:=z0a (wL w0) (xs.take i)
 rw[List.length_take,Nat.min_eq_left hi] at hge
 by_cases h:i<xs.length
 ·have hst:=t0z (wL w0) h
  have hle2:=x0h (wL w0) xs (i+1)
  have hlen2:=z0a (wL w0) (xs.drop (i+1))
  have happ:=z0y (wL w0) (xs.take (i+1)) (xs.drop (i+1))
  rw[List.take_append_drop] at happ
  rw[List.length_drop] at hlen2
  simp[h,sIS]
  refine z00 (n0q xs[i] _ (hl.2 i h) (by omega) (by omega)) (by simp) ?_
  generalize hv:left - (xs.length:Int) - ((wL (wL w0) (xs.take i):Int) - i)=v at *
  by_cases h4:v<((wL w0) xs[i]:Int)
  ·simp only[z0j h4]
   rw[z0j (by omega)]
   simp
  ·have e:lft v ((wL w0) xs[i])=v - (wL w0) xs[i]:=z0w (by omega)
   have n1: ¬v - ((wL w0) xs[i]:Int)<0:=by omega
   simp[e,n1]
   refine⟨xs.length - (i+1),by omega,i+1,by omega,rfl,by omega,?_⟩
   rw[z08 (by omega) (by omega)]
   simp; omega
 ·have:i=xs.length:=by omega
  subst this
  rw[List.take_length] at hle
  rw[z0w (by omega)]
  simp
  omega
end
section
def e1s:K:=dc 0x411a05a040081005441442e50004405003043104079041040642640e5834460100204005705759509ba855810155000425134811d31404800070400450001833c23ce30d10e34334000c1401010000371410041410031c01450390410400031040790410402c22c0e4a3442810020400012412481811081c31c0006040141004039041040
def l1g:Nat×List RV:=(27,[.t 4])
theorem c_146:z01 PA 146 l1g e1s:=by unfold z01; kernel_rfl
theorem y18 (xs:List (List (List Int))) (left:Int) (hl:lL (lL (lL l0)) xs) (h2:0≤left) (h3:left<2 ^ 40):z06 Tryz.prog 146 [.one (.ar false 0 1 (xs.map sISS)),aI left] (aI (lft left (wL (wL (wL w0)) xs))):=by
 refine Prun c_146 (by simp[l1g]) (by simp) ?_
 (conv in e1s=>reduce); unfold l1g
 have hlen:=hl.1
 have hlw:=z0a (wL (wL w0)) xs
 have w1:IntKind.i64.wrap (left - xs.length)=left - xs.length:=z08 (by omega) (by omega)
 by_cases h1:left - (xs.length:Int)<0
 ·rw[z0j (by omega)]
  simp[w1,h1]
 simp[w1,h1]
 refine z04 (fun n σ=>∃i:Nat,i≤xs.length∧n=xs.length - i∧(wL (wL (wL w0)) (xs.take i):Int) - i≤left - xs.length∧σ=⟨[(0,.one (.ar false 0 1 (xs.map sISS))),(1,aI (left - xs.length - ((wL (wL (wL w0)) (xs.take i):Int) - i))),(5,aI i)],[]⟩) (xs.length) ⟨0,by simp[wL]; omega⟩ ?_
 rintro n σ ⟨i,hi,rfl,hle,rfl⟩
 have hge:=z0a (wL (wL w0)) (xs.take i)
 rw[List.length_take,Nat.min_eq_left hi] at hge
 by_cases h:i<xs.length
 ·have hst:=t0z (wL (wL w0)) h
  have hle2:=x0h (wL (wL w0)) xs (i+1)
  have hlen2:=z0a (wL (wL w0)) (xs.drop (i+1))
  have happ:=z0y (wL (wL w0)) (xs.take (i+1)) (xs.drop (i+1))
  rw[List.take_append_drop] at happ
  rw[List.length_drop] at hlen2
  simp[h,sISS]
  refine z00 (v1l xs[i] _ (hl.2 i h) (by omega) (by omega)) (by simp) ?_
  generalize hv:left - (xs.length:Int) - ((wL (wL (wL w0)) (xs.take i):Int) - i)=v at *
  by_cases h4:v<((wL (wL w0)) xs[i]:Int)
  ·simp only[z0j h4]
   rw[z0j (by omega)]
   simp
  ·have e:lft v ((wL (wL w0)) xs[i])=v - (wL (wL w0)) xs[i]:=z0w (by omega)
   have n1: ¬v - ((wL (wL w0)) xs[i]:Int)<0:=by omega
   simp[e,n1]
   refine⟨xs.length - (i+1),by omega,i+1,by omega,rfl,by omega,?_⟩
   rw[z08 (by omega) (by omega)]
   simp; omega
 ·have:i=xs.length:=by omega
  subst this
  rw[List.take_length] at hle
  rw[z0w (by omega)]
  simp
  omega
end
section
def k_96:K:=dc 0x1042c12c10020400c4101e4104100a08a03924d1090400810000480481c60aaa451c1006140042142006141004039042001929202040
def r_96:Nat×List RV:=(12,[.t 4])
theorem c_96:z01 PA 96 r_96 k_96:=by unfold z01; kernel_rfl
theorem q14 (a:TGram) (left:Int) (h:x0d a) (h2:0≤left) (h3:left<2 ^ 40):z06 Tryz.prog 96 [.agg (z0b a),aI left] (aI (lft left (z0q a))):=by
 refine Prun c_96 (by simp[r_96]) (by simp) ?_
 (conv in k_96=>reduce); unfold r_96
 simp only[x0d] at h
 simp only[z0q]
 have hl0:=h
 simp[z0b]
 refine z00 (y18 a.parts (left) hl0 (by omega) (by omega)) (by simp) ?_
 by_cases g0:left<(wL (wL (wL w0)) a.parts:Int)
 case pos=>simp only[z0j g0]; simp; try rw[z0j (by omega)]
 simp only[z0w (show (wL (wL (wL w0)) a.parts:Int)≤left by omega)]
 have n0: ¬left - (wL (wL (wL w0)) a.parts:Int)<0:=by omega
 simp[n0]
 try rw[z0w (by omega)]
 try omega
end
section
def b1d:K:=dc 0x1042c12c10020400c4101e4104100a08a03924d1090400810000480481c60bfa851c10061400421420461410040390420028ec202040
def j1z:Nat×List RV:=(12,[.t 4])
theorem c_268:z01 PA 268 j1z b1d:=by unfold z01; kernel_rfl
theorem q12 (a:TConf) (left:Int) (h:f0j a) (h2:0≤left) (h3:left<2 ^ 40):z06 Tryz.prog 268 [.agg (z0k a),aI left] (aI (lft left (y0f a))):=by
 refine Prun c_268 (by simp[j1z]) (by simp) ?_
 (conv in b1d=>reduce); unfold j1z
 simp only[f0j] at h
 simp only[y0f]
 have hl0:=h
 simp[z0k]
 refine z00 (n0q a.row (left) hl0 (by omega) (by omega)) (by simp) ?_
 by_cases g0:left<(wL w0 a.row:Int)
 case pos=>simp only[z0j g0]; simp; try rw[z0j (by omega)]
 simp only[z0w (show (wL w0 a.row:Int)≤left by omega)]
 have n0: ¬left - (wL w0 a.row:Int)<0:=by omega
 simp[n0]
 try rw[z0w (by omega)]
 try omega
end
section
def b1x:K:=dc 0x411a05a040081005441442e50004405003043104079041040642640e5834460100204005705759508eb055810155011425134851d31404800070400450001833c23ce30d10e34334000c1401010000371410041410031c01450390410400031040790410402c22c0e4a3442810020400012412481811081c31c0006040141004039041040
def i1k:Nat×List RV:=(27,[.t 4])
theorem c_295:z01 PA 295 i1k b1x:=by unfold z01; kernel_rfl
theorem v1n (xs:List TNode) (left:Int) (hl:lL y1h xs) (h2:0≤left) (h3:left<2 ^ 40):z06 Tryz.prog 295 [.one (.ar false 0 5 (xs.map x0g)),aI left] (aI (lft left (wL y0m xs))):=by
 refine Prun c_295 (by simp[i1k]) (by simp) ?_
 (conv in b1x=>reduce); unfold i1k
 have hlen:=hl.1
 have hlw:=z0a y0m xs
 have w1:IntKind.i64.wrap (left - xs.length)=left - xs.length:=z08 (by omega) (by omega)
 by_cases h1:left - (xs.length:Int)<0
 ·rw[z0j (by omega)]
  simp[w1,h1]
 simp[w1,h1]
 refine z04 (fun n σ=>∃i:Nat,i≤xs.length∧n=xs.length - i∧(wL y0m (xs.take i):Int) - i≤left - xs.length∧σ=⟨[(0,.one (.ar false 0 5 (xs.map x0g))),(1,aI (left - xs.length - ((wL y0m (xs.take i):Int) - i))),(5,aI i)],[]⟩) (xs.length) ⟨0,by simp[wL]; omega⟩ ?_
 rintro n σ ⟨i,hi,rfl,hle,rfl⟩
 have hge:=z0a y0m (xs.take i)
 rw[List.length_take,Nat.min_eq_left hi] at hge
 by_cases h:i<xs.length
 ·have hst:=t0z y0m h
  have hle2:=x0h y0m xs (i+1)
  have hlen2:=z0a y0m (xs.drop (i+1))
  have happ:=z0y y0m (xs.take (i+1)) (xs.drop (i+1))
  rw[List.take_append_drop] at happ
  rw[List.length_drop] at hlen2
  simp[h,x0g]
  refine z00 (q17 xs[i] _ (hl.2 i h) (by omega) (by omega)) (by simp) ?_
  generalize hv:left - (xs.length:Int) - ((wL y0m (xs.take i):Int) - i)=v at *
  by_cases h4:v<(y0m xs[i]:Int)
  ·simp only[z0j h4]
   rw[z0j (by omega)]
   simp
  ·have e:lft v (y0m xs[i])=v - y0m xs[i]:=z0w (by omega)
   have n1: ¬v - (y0m xs[i]:Int)<0:=by omega
   simp[e,n1]
   refine⟨xs.length - (i+1),by omega,i+1,by omega,rfl,by omega,?_⟩
   rw[z08 (by omega) (by omega)]
   simp; omega
 ·have:i=xs.length:=by omega
  subst this
  rw[List.take_length] at hle
  rw[z0w (by omega)]
  simp
  omega
end
section
def b1f:K:=dc 0x1042c12c10020400c4101e4104100a08a03924d1090400810000480481c60bfac51c100614004214200614100403904200152b202040
def i11:Nat×List RV:=(12,[.t 4])
theorem c_270:z01 PA 270 i11 b1f:=by unfold z01; kernel_rfl
theorem q18 (a:TTree) (left:Int) (h:q1k a) (h2:0≤left) (h3:left<2 ^ 40):z06 Tryz.prog 270 [.agg (u0v a),aI left] (aI (lft left (x0q a))):=by
 refine Prun c_270 (by simp[i11]) (by simp) ?_
 (conv in b1f=>reduce); unfold i11
 simp only[q1k] at h
 simp only[x0q]
 have hl0:=h
 simp[u0v]
 refine z00 (v1n a.nodes (left) hl0 (by omega) (by omega)) (by simp) ?_
 by_cases g0:left<(wL y0m a.nodes:Int)
 case pos=>simp only[z0j g0]; simp; try rw[z0j (by omega)]
 simp only[z0w (show (wL y0m a.nodes:Int)≤left by omega)]
 have n0: ¬left - (wL y0m a.nodes:Int)<0:=by omega
 simp[n0]
 try rw[z0w (by omega)]
 try omega
end
section
def d1v:K:=dc 0x410c04c0400810031040790410402c22c0e4a3442810020400012412481411081de1c60010860821850401810040390420036eb202040
def k1j:Nat×List RV:=(13,[.t 4])
theorem c_198:z01 PA 198 k1j d1v:=by unfold z01; kernel_rfl
theorem c02 (a:TOutcome) (left:Int) (h:r0t a) (h2:0≤left) (h3:left<2 ^ 40):z06 Tryz.prog 198 [.agg (z0u a),aI left] (aI (lft left (y06 a))):=by
 refine Prun c_198 (by simp[k1j]) (by simp) ?_
 (conv in d1v=>reduce); unfold k1j
 simp only[r0t] at h
 simp only[y06]
 have hl0:=h
 simp[z0u]
 have ww0:IntKind.i64.wrap (left - (a.text.size:Int))=left - a.text.size:=z08 (by omega) (by omega)
 by_cases n0:left - (a.text.size:Int)<0
 case pos=>simp[ww0,n0]; try rw[z0j (by omega)]
 simp[ww0,n0]
 try rw[z0w (by omega)]
 try omega
end
section
def e1z:K:=dc 0x40960560c0081004341342e4c00430400305454004bf153ce047513066a854d20010924500474440100003c400e0c02410450001832c22ca20d10a2432400081001010000371030041030031c01440390410400031c11c61813a8043058068a251850c5000101002068a010fc041040
def l1n:Nat×List RV:=(23,[.t 2])
theorem c_153:z01 PA 153 l1n e1z:=by unfold z01; kernel_rfl
theorem y1b (xs:List (List (List Int))) (hx:wL (wL (wL w0)) xs<2 ^ 31):z06 Tryz.prog 153 [.one (.ar false 0 1 (xs.map sISS))] (.one (.ar true 80 1 (xs.map rISS))):=by
 refine Prun c_153 (by simp[l1n]) (by simp) ?_
 (conv in e1z=>reduce); unfold l1n
 have hlen:=z0a (wL (wL w0)) xs
 have hc:((xs.length:Int)≤4294967296):=by omega
 simp[hc]
 refine z04 (fun n σ=>∃i:Nat,i≤xs.length∧n=xs.length - i∧σ=⟨[(0,.one (.ar false 0 1 (xs.map sISS))),(3,.one (.vw 80 1 3 [] 0 xs.length)),(4,aI i)],[(3,⟨80,1,part rISS zISS xs i⟩)]⟩) (xs.length) ⟨0,by simp[x0t,zISS]⟩ ?_
 rintro n σ ⟨i,hi,rfl,rfl⟩
 by_cases h:i<xs.length
 ·have hw:=z0x (wL (wL w0)) xs i h
  have:=w0p (r:=rISS) (z:=zISS) h
  simp[h,sISS]
  refine z00 (v1s xs[i] (by omega)) (by simp) ?_
  simp[h,w0o h,rISS,zISS]
  refine⟨xs.length - (i+1),by omega,i+1,by omega,rfl,?_⟩
  rw[z08 (by omega) (by omega)]
  simp only[rISS,zISS] at this
  simp[rISS,zISS,this]
 ·have:i=xs.length:=by omega
  subst this
  simp[w0n]
end
section
def f1w:K:=dc 0x42020012fc2030410820401870012fc1c3006185071a451440010840401850400c1a280430416a8481040081a280430416a8481001929202040
def m1k:Nat×List RV:=(9,[.c 2 1 true])
theorem c_102:z01 PA 102 m1k f1w:=by unfold z01; kernel_rfl
theorem q1b (a:TGram) (ha:z0q a<2 ^ 31):z06 Tryz.prog 102 [.agg (z0b a)] (.agg (q0u a)):=by
 refine Prun c_102 (by simp[m1k]) (by simp) ?_
 (conv in f1w=>reduce); unfold m1k
 simp only[z0q] at ha
 simp[z0b]
 refine z00 (y1b a.parts (by omega)) (by simp) ?_
 simp[q0u]
end
section
def b1m:K:=dc 0x42c20022fc2c304208204024a0012fc283046248048ac52070010870411850401460012fc1830061440010840401840400c10c10c00000828a84810400810c10c00000828a84810028ec202040
def i19:Nat×List RV:=(12,[.c 2 2 true])
theorem c_277:z01 PA 277 i19 b1m:=by unfold z01; kernel_rfl
theorem q19 (a:TConf) (ha:y0f a<2 ^ 31):z06 Tryz.prog 277 [.agg (z0k a)] (.agg (u0t a)):=by
 refine Prun c_277 (by simp[i19]) (by simp) ?_
 (conv in b1m=>reduce); unfold i19
 simp only[y0f] at ha
 simp[z0k]
 refine z00 (n0r a.row (by omega)) (by simp) ?_
 simp[u0t]
end
section
def a13:K:=dc 0x40960560c0081004341342e4c00430400305454014bf153ce147513052b054d20450924501474440100003c400e0c02410450001832c22ca20d10a2432400081001010000371030041030031c01440390410400031c11c61810c10c0000000000000000005428172ae51850c5000101002172ac10fc041040
def i1q:Nat×List RV:=(23,[.t 2])
theorem c_301:z01 PA 301 i1q a13:=by unfold z01; kernel_rfl
theorem v1u (xs:List TNode) (hx:wL y0m xs<2 ^ 31):z06 Tryz.prog 301 [.one (.ar false 0 5 (xs.map x0g))] (.one (.ar true 282 5 (xs.map x0m))):=by
 refine Prun c_301 (by simp[i1q]) (by simp) ?_
 (conv in a13=>reduce); unfold i1q
 have hlen:=z0a y0m xs
 have hc:((xs.length:Int)≤4294967296):=by omega
 simp[hc]
 refine z04 (fun n σ=>∃i:Nat,i≤xs.length∧n=xs.length - i∧σ=⟨[(0,.one (.ar false 0 5 (xs.map x0g))),(3,.one (.vw 282 5 3 [] 0 xs.length)),(4,aI i)],[(3,⟨282,5,part x0m x1f xs i⟩)]⟩) (xs.length) ⟨0,by simp[x0t,x1f]⟩ ?_
 rintro n σ ⟨i,hi,rfl,rfl⟩
 by_cases h:i<xs.length
 ·have hw:=z0x y0m xs i h
  have:=w0p (r:=x0m) (z:=x1f) h
  simp[h,x0g]
  refine z00 (q1e xs[i] (by omega)) (by simp) ?_
  simp[h,w0o h,x0m,x1f]
  refine⟨xs.length - (i+1),by omega,i+1,by omega,rfl,?_⟩
  rw[z08 (by omega) (by omega)]
  simp only[x0m,x1f] at this
  simp[x0m,x1f,this]
 ·have:i=xs.length:=by omega
  subst this
  simp[w0n]
end
section
def b1o:K:=dc 0x42020012fc2030410820401870012fc1c3006185045b051440010840401850400c5cab0430414a8481040085cab0430414a848100152b202040
def i1b:Nat×List RV:=(9,[.c 2 1 true])
theorem c_279:z01 PA 279 i1b b1o:=by unfold z01; kernel_rfl
theorem q1g (a:TTree) (ha:x0q a<2 ^ 31):z06 Tryz.prog 279 [.agg (u0v a)] (.agg (s0w a)):=by
 refine Prun c_279 (by simp[i1b]) (by simp) ?_
 (conv in b1o=>reduce); unfold i1b
 simp only[x0q] at ha
 simp[u0v]
 refine z00 (v1u a.nodes (by omega)) (by simp) ?_
 simp[s0w]
end
section
def c17:K:=
 .seq (
  .reg none [⟨(some 1),none,.box 259 3 (.t 0)⟩,
   ⟨(some 2),none,.alc 49 3 [(.int .i64 (0)),(.int .i64 (0)),(.str ⟨#[]⟩)]⟩]) (
 .seq (
  .reg none [⟨(some 3),none,.alc 49 3 [(.int .i64 (0)),(.int .i64 (0)),(.str ⟨#[]⟩)]⟩]) (
 .seq (
  .reg none [⟨(some 4),none,.fad 0 (.t 1)⟩,
   ⟨(some 5),none,.ld 1 false (.t 4)⟩,
   ⟨(some 6),none,.fad 0 (.t 3)⟩,
   ⟨none,none,.st 1 false (.t 6) (.t 5)⟩]) (
 .seq (
  .reg none [⟨(some 7),none,.fad 1 (.t 1)⟩,
   ⟨(some 8),none,.ld 1 false (.t 7)⟩,
   ⟨(some 9),none,.fad 1 (.t 3)⟩,
   ⟨none,none,.st 1 false (.t 9) (.t 8)⟩]) (
 .seq (
  .reg none [⟨(some 10),none,.fad 2 (.t 1)⟩,
   ⟨(some 11),none,.ld 1 false (.t 10)⟩,
   ⟨(some 12),none,.fad 2 (.t 3)⟩,
   ⟨none,none,.st 1 false (.t 12) (.t 11)⟩]) (
 .seq (
  .reg none [⟨(some 13),none,.ld 3 true (.t 3)⟩,
   ⟨none,none,.st 3 false (.t 2) (.t 13)⟩]) (
 .ret))))))
def k1u:Nat×List RV:=(14,[.c 2 3 true])
theorem c_209:z01 PA 209 k1u c17:=by unfold z01; kernel_rfl
theorem c04 (a:TOutcome) (ha:y06 a<2 ^ 31):z06 Tryz.prog 209 [.agg (z0u a)] (.agg (x0s a)):=by
 refine Prun c_209 (by simp[k1u]) (by simp) ?_
 unfold c17 k1u
 simp only[y06] at ha
 simp[z0u,x0s]
end
section
def t1x:List Sh:=[.l 1 [.l 1 [.l 1 [.i]]]]
theorem m18 (x:List C) (h:y0v t1x x): ∃a:TGram,x=z0b a∧x0d a:=by
 simp only[t1x,y0v] at h
 obtain⟨c0,r0,rfl,h0,rfl⟩:=h
 obtain⟨n0,rfl,g0⟩:=r07 a1q c0 h0
 refine⟨⟨n0⟩,rfl,?_⟩
 simp only[x0d]
 exact g0
end
section
def c0v:List Sh:=[.i,.l 3 t1y]
theorem q1w (x:List C) (h:y0v c0v x): ∃a:TStore,x=y0h a∧p0l a:=by
 simp only[c0v,y0v] at h
 obtain⟨c0,r0,rfl,h0,c1,r1,rfl,h1,rfl⟩:=h
 simp only[inSh] at h0
 obtain⟨n0,rfl,v0⟩:=h0
 obtain⟨n1,rfl,g1⟩:=r07 m19 c1 h1
 refine⟨⟨n0,n1⟩,rfl,?_⟩
 simp only[p0l]
 exact g1
end
section
def h1f:List Sh:=[.i,.i,.l 1 [.i],.i,.i,.i,.i,.l 2 s10,.l 5 t1z,.l 3 h1e]
theorem a1r (x:List C) (h:y0v h1f x): ∃a:TJob,x=sJob a∧lJob a:=by
 simp only[h1f,y0v] at h
 obtain⟨c0,r0,rfl,h0,c1,r1,rfl,h1,c2,r2,rfl,h2,c3,r3,rfl,h3,c4,r4,rfl,h4,c5,r5,rfl,h5,c6,r6,rfl,h6,c7,r7,rfl,h7,c8,r8,rfl,h8,c9,r9,rfl,h9,rfl⟩:=h
 simp only[inSh] at h0
 obtain⟨n0,rfl,v0⟩:=h0
 simp only[inSh] at h1
 obtain⟨n1,rfl,v1⟩:=h1
 obtain⟨n2,rfl,g2⟩:=r07 a0b c2 h2
 simp only[inSh] at h3
 obtain⟨n3,rfl,v3⟩:=h3
 simp only[inSh] at h4
 obtain⟨n4,rfl,v4⟩:=h4
 simp only[inSh] at h5
 obtain⟨n5,rfl,v5⟩:=h5
 simp only[inSh] at h6
 obtain⟨n6,rfl,v6⟩:=h6
 obtain⟨n7,rfl,g7⟩:=r07 m1b c7 h7
 obtain⟨n8,rfl,g8⟩:=r07 m1a c8 h8
 obtain⟨n9,rfl,g9⟩:=r07 a1p c9 h9
 refine⟨⟨n0,n1,n2,⟨n3,n4,n5,n6,n7,⟨n8⟩,n9⟩⟩,rfl,?_⟩
 simp only[lJob,lRun,q1k]
 exact⟨g2,⟨g7,g8,g9,v5⟩⟩
end
section
def h0t:List Sh:=[.i,.i,.i,.i,.i,.i,.i,.i,.l 10 h1f,.l 3 l0v]
theorem u1o (x:List C) (h:y0v h0t x): ∃a:TTenant,x=z07 a∧q0r a:=by
 simp only[h0t,y0v] at h
 obtain⟨c0,r0,rfl,h0,c1,r1,rfl,h1,c2,r2,rfl,h2,c3,r3,rfl,h3,c4,r4,rfl,h4,c5,r5,rfl,h5,c6,r6,rfl,h6,c7,r7,rfl,h7,c8,r8,rfl,h8,c9,r9,rfl,h9,rfl⟩:=h
 simp only[inSh] at h0
 obtain⟨n0,rfl,v0⟩:=h0
 simp only[inSh] at h1
 obtain⟨n1,rfl,v1⟩:=h1
 simp only[inSh] at h2
 obtain⟨n2,rfl,v2⟩:=h2
 simp only[inSh] at h3
 obtain⟨n3,rfl,v3⟩:=h3
 simp only[inSh] at h4
 obtain⟨n4,rfl,v4⟩:=h4
 simp only[inSh] at h5
 obtain⟨n5,rfl,v5⟩:=h5
 simp only[inSh] at h6
 obtain⟨n6,rfl,v6⟩:=h6
 simp only[inSh] at h7
 obtain⟨n7,rfl,v7⟩:=h7
 obtain⟨n8,rfl,g8⟩:=r07 a1r c8 h8
 obtain⟨n9,rfl,g9⟩:=r07 y1p c9 h9
 refine⟨⟨n0,n1,n2,n3,n4,n5,n6,n7,n8,n9⟩,rfl,?_⟩
 simp only[q0r]
 exact⟨g8,g9⟩
end
section
def c0u:List Sh:=[.i,.i,.l 1 t1x,.l 2 c0v,.l 10 h0t]
theorem q1v (x:List C) (h:y0v c0u x): ∃a:THouse,x=z0o a∧s07 a:=by
 simp only[c0u,y0v] at h
 obtain⟨c0,r0,rfl,h0,c1,r1,rfl,h1,c2,r2,rfl,h2,c3,r3,rfl,h3,c4,r4,rfl,h4,rfl⟩:=h
 simp only[inSh] at h0
 obtain⟨n0,rfl,v0⟩:=h0
 simp only[inSh] at h1
 obtain⟨n1,rfl,v1⟩:=h1
 obtain⟨n2,rfl,g2⟩:=r07 m18 c2 h2
 obtain⟨n3,rfl,g3⟩:=r07 q1w c3 h3
 obtain⟨n4,rfl,g4⟩:=r07 u1o c4 h4
 refine⟨⟨n0,n1,n2,n3,n4⟩,rfl,?_⟩
 simp only[s07]
 exact⟨g2,g3,g4⟩
end
end Go.Am
