/- Text 30 for FnExactAhead. -/
import Derived.Test.YtmpnhclbmgjpgaaGreatAhead29
set_option linter.unusedVariables false
set_option linter.unusedSimpArgs false
namespace Go.Am
open Go.Proofs
set_option maxHeartbeats 4000000
set_option maxRecDepth 100000
attribute [-simp] BitVec.toNat_or BitVec.toNat_and BitVec.toNat_ofInt
section
attribute [-simp] z03 z05 z02
def chN (fs:Nat→Nat):Nat→Nat×Int×Int
 | 0=>(0, -1, -1)
 | i+1=>if (chN fs i).2.1<fs i then (i,fs i,(chN fs i).2.1) else if (chN fs i).2.2<fs i then ((chN fs i).1,(chN fs i).2.1,fs i) else chN fs i
def chQ (fs:Nat→Nat) (n:Nat) (l a:Int):Int×Int:=((chN fs n).1,if n=1 then 0 else min (l - a) ((chN fs n).2.2+1))
def x0y (F:FarF) (g:TGram) (k:Int) (rest w:List Int) (a:Nat):Int×Int:=match r0g g k rest with
 | none=>(-1,0)
 | some rs=>chQ (fun i=>F g w (rs.getD i []) a) rs.length w.length a
def chR (p:Int×Int):A:= .tup [(false,[.int .i64 p.1]),(false,[.int .i64 p.2])]
theorem r0x {g:TGram} (hg:y02 g=true) {k:Int} {rest:List Int} {rs:List (List Int)} (h:r0g g k rest=some rs):1≤rs.length∧rs.length≤8∧∀r∈rs,rowK g.parts.length r=true:=by
 unfold r0g at h
 split at h
 ·rename_i c1
  split at h
  ·rename_i c2
   rw[z0l] at c1
   have hk:k.toNat<g.parts.length:=by omega
   rw[List.getD_eq_getElem?_getD,List.getElem?_eq_getElem hk,Option.getD_some] at h c2
   simp only[Option.some.injEq] at h
   subst h
   have h8:=u06 hg hk
   have h1:1≤g.parts[k.toNat].length:=by
    simp only[y02,Bool.and_eq_true,List.all_eq_true] at hg
    have h1:=hg.2 _ (List.getElem_mem hk)
    simp only[v0b,Bool.and_eq_true,z0l] at h1
    omega
   rw[List.length_map]
   refine⟨h1,h8,fun r hr=>?_⟩
   obtain⟨al,ha,rfl⟩:=List.mem_map.1 hr
   exact List.all_eq_true.1 c2 al ha
  ·cases h
 ·cases h
theorem p1v (fs:Nat→Nat) (m:Nat): ∀i,(∀j<i,fs j≤m)→(chN fs i).1≤i∧ -1≤(chN fs i).2.1∧(chN fs i).2.1≤m∧ -1≤(chN fs i).2.2∧(chN fs i).2.2≤m
 | 0,_=>by simp only[chN]; omega
 | i+1,h=>by
   have:=p1v fs m i fun j hj=>h j (by omega)
   have:=h i (by omega)
   rw[chN]
   split
   ·simp only; omega
   ·split
    ·simp only; omega
    ·omega
def ChJ (g:TGram) (w:List Int) (rs:List (List Int)) (fs:Nat→Nat) (a:Nat) (n:Nat) (σ:St):Prop:=∃(i:Nat) (T:List (Nat×Nat×Bool)),i≤rs.length∧n=rs.length - i∧TabOk g w T∧(∀j<i,fs j≤11)∧σ=⟨[(3,.one (.ar false 0 1 (w.map rI))),(4,aI a),(12,.one (.ar false 0 1 (rs.map sIS))),(14,.one (.pt 662 14 [] 0 0)),(15,aI (chN fs i).1),(16,aI (chN fs i).2.1),(17,aI (chN fs i).2.2),(33,.one (.ar false 0 1 (rs.map sIS))),(34,aI rs.length),(35,aI i)],[(14,⟨1000000000+241,662,[.ar false 0 1 (g.parts.map sISS) :: .ar false 0 1 (w.map rI) :: tabC T]⟩)]⟩
def k_95:K:=dc 0x42cce01285e017282f827801f6e80b92b80046a84406682381f80446281005e81b80d6a03015a0f00a0400c42c0e41284e015283c00c1003e024e80b90b82c44a80780d1a0c003040023038010a02e630040810d1dc13e8500081cc22e8d813a8d743c4368440328500101011c8143104fc012a8400268500228480181b02128bc11e8bad3c41a8400168500101002154ac10e8aa9a03a29a500a81000684c00283801410139c14a50679800429a38411e58c01410011400060e40809228cd1010400375124503ce3040ca8e285140f38c1032870058c0e408a10e13000c3d09304fc100128001107905007904f0390430403a00607de0a8a457c301e14104210100310b03904a07904204074275c25c34008100035b04c6816d504c69500c5590196175839e91580805c101614104224100b03904a0390450016a8203040
def r_95:Nat×List RV:=(69,[.t 10,.t 11])
theorem c_95:z01 PA 95 r_95 k_95:=by unfold z01; kernel_rfl
theorem r1l {F:FarF} (hF:s0e F) (g:TGram) (k:Int) (rest w:List Int) (a:Nat) (hc:y09 g=0) (hw:z0q g<2 ^ 31) (hr:rest.length<2 ^ 29) (hr2:lL l0 rest) (hwl:w.length≤10) (ha:a≤w.length) :
 z06 Tryz.prog 95 [.agg (z0b g),aI k,.one (.ar false 0 1 (rest.map rI)),.one (.ar false 0 1 (w.map rI)),aI a] (chR (x0y F g k rest w a)):=by
 have hg:=y0t hc
 have hro:=q10 g k rest hg hw hr hr2
 have hlk:=j07 g w
 have hrs:=@r0x g hg k rest
 have hfar:=fun row h1 h2 t T hT=>f01 hF g w t hc hw hwl row h1 h2 a ha T hT
 have hT0:=s1k g w
 have hno:r0g g k rest=none→x0y F g k rest w a=(-1,0):=fun h=>by rw[x0y,h]
 have hso: ∀rs,r0g g k rest=some rs→x0y F g k rest w a=chQ (fun i=>F g w (rs.getD i []) a) rs.length w.length a:=fun rs h=>by rw[x0y,h]
 generalize x0y F g k rest w a=q at *
 refine Prun c_95 (by simp[r_95]) (by simp) ?_
 (conv in k_95=>reduce); unfold r_95
 obtain⟨ps⟩:=g
 simp only[z0b,lkR] at hro hlk hfar
 simp[z0b]
 cases c1:r0g ⟨ps⟩ k rest with
 | none=>
   rw[c1,c0o] at hro
   rw[hno c1]
   first | refine z00 hro (by simp) ?_ | refine z0c hro (by simp) ?_ | refine z0z hro (by simp) ?_ | refine z0e hro rfl rfl (by simp) (by simp) ?_ | refine⟨_,by simp,hro,?_⟩
   try simp
   simp[chR]
 | some rs=>
 rw[c1,c0o] at hro
 have hrs:=hrs c1
 rw[hso rs c1]
 have hfs: ∀i (h:i<rs.length),F ⟨ps⟩ w rs[i] a=(fun i=>F ⟨ps⟩ w (rs.getD i []) a) i:=fun i h=>by
  show _=F ⟨ps⟩ w (rs.getD i []) a
  rw[List.getD_eq_getElem?_getD,List.getElem?_eq_getElem h,Option.getD_some]
 generalize (fun i=>F ⟨ps⟩ w (rs.getD i []) a)=fs at *
 clear hno hso c1
 first | refine z00 hro (by simp) ?_ | refine z0c hro (by simp) ?_ | refine z0z hro (by simp) ?_ | refine z0e hro rfl rfl (by simp) (by simp) ?_ | refine⟨_,by simp,hro,?_⟩
 try simp
 first | refine z00 hlk (by simp) ?_ | refine z0c hlk (by simp) ?_ | refine z0z hlk (by simp) ?_ | refine z0e hlk rfl rfl (by simp) (by simp) ?_ | refine⟨_,by simp,hlk,?_⟩
 try simp
 refine z04 (ChJ ⟨ps⟩ w rs fs a) rs.length ⟨0,tab0,by omega,rfl,hT0,fun j hj=>by omega,by simp[chN]⟩ ?_
 rintro n σ ⟨i,T,hi,rfl,hT,hb,rfl⟩
 have hq:=p1v fs 11 i hb
 by_cases h:i<rs.length
 case neg=>
  have e:i=rs.length:=by omega
  subst e
  obtain⟨Q,hQ⟩: ∃Q,chN fs rs.length=Q:=⟨_,rfl⟩
  rw[hQ] at hq
  have w1:IntKind.i64.wrap ((w.length:Int) - a)=w.length - a:=z08 (by omega) (by omega)
  have w2:IntKind.i64.wrap (Q.2.2+1)=Q.2.2+1:=z08 (by omega) (by omega)
  by_cases c2:rs.length=1
  ·have c3:(rs.length:Int)=1:=by omega
   simp[chQ,hQ,c3,chR]
   simp[c2]
  ·have c3: ¬(rs.length:Int)=1:=by omega
   simp[chQ,hQ,c2,c3,chR,w1,w2]
   rw[Int.min_def]
   split <;> split <;> omega
 have wi:IntKind.i64.wrap ((i:Int)+1)=i+1:=z08 (by omega) (by omega)
 have hrk:=hrs.2.2 rs[i] (List.getElem_mem h)
 simp only[rowK,Bool.and_eq_true,decide_eq_true_eq] at hrk
 have hfr:=hfar rs[i] (by omega) hrk.2 (1000000000+241) T hT
 rw[hfs i h] at hfr
 obtain⟨row,hr⟩: ∃row,rs[i]=row:=⟨_,rfl⟩
 rw[hr] at hfr
 simp only[Nat.reduceAdd] at hfr
 simp[h,hr,sIS]
 refine CallsA.mono hfr ?_
 rintro r H ⟨T',h1,rfl,rfl,h2⟩
 refine⟨_,rfl,rfl,rfl,.inl rfl,by simp,?_⟩
 have h3:=h2.le
 have hb2: ∀j<i+1,fs j≤11:=fun j hj=>by
  by_cases e:j=i
  ·subst e; omega
  ·exact hb j (by omega)
 have hN:chN fs (i+1)=if (chN fs i).2.1<fs i then (i,((fs i:Nat):Int),(chN fs i).2.1) else if (chN fs i).2.2<fs i then ((chN fs i).1,(chN fs i).2.1,((fs i:Nat):Int)) else chN fs i:=rfl
 generalize chN fs i=Q at *
 by_cases c1:Q.2.1<fs i
 ·rw[if_pos c1] at hN
  simp[c1,wi]
  refine⟨rs.length - (i+1),by omega,i+1,T',by omega,rfl,h1,hb2,?_⟩
  rw[hN]
  simp
 ·rw[if_neg c1] at hN
  by_cases c2:Q.2.2<fs i
  ·rw[if_pos c2] at hN
   simp[c1,c2,wi]
   refine⟨rs.length - (i+1),by omega,i+1,T',by omega,rfl,h1,hb2,?_⟩
   rw[hN]
   simp
  ·rw[if_neg c2] at hN
   simp[c1,c2,wi]
   refine⟨rs.length - (i+1),by omega,i+1,T',by omega,rfl,h1,hb2,?_⟩
   rw[hN]
   simp
end
section
attribute [-simp] z03 z05 z02
def v0k (n:Nat) (ns:List TNode) (s:TSlot):Bool:=y0o n s.sym && (decide (s.up = -1) || (inr s.up 0 ((ns.length:Int) - 1) && decide ((ns.getD s.up.toNat default).kind=1)))
def runC (g:TGram) (w:List Int) (r:TRun):Bool:=inr r.pos 0 w.length && inr r.cost 0 599 && decide (r.slots.length≤200) && r.slots.all (v0k g.parts.length r.tree.nodes)
def inB (g:TGram) (w:List Int):Bool:=y08 w && decide (y09 g=0)
def x03 (ss:List TSlot):List Int:=(ss.dropLast.map TSlot.sym).reverse
def u0i (ns:List TNode) (up:Int) (me:Nat):List TNode:=if 0≤up then ns.set up.toNat { ns.getD up.toNat default with kids:=(ns.getD up.toNat default).kids ++ [(me:Int)] } else ns
def putF (r:TRun) (n:TNode):TRun:=match r.slots.getLast? with
 | none=>r
 | some s=>{ r with slots:=r.slots.dropLast,tree:=⟨u0i (r.tree.nodes ++ [n]) s.up r.tree.nodes.length⟩ }
def t0i (w:List Int) (r:TRun):TRun:={ r with errs:=r.errs ++ [⟨0,r.pos,w.getD r.pos.toNat 0⟩],pos:=r.pos+1 }
def v02 (g:TGram) (w:List Int) (r:TRun) (x:Int):TRun:=
 if w[r.pos.toNat]?=some x then { putF r ⟨0,x,0,r.pos,[]⟩ with pos:=r.pos+1 }
 else if w[r.pos.toNat+1]?=some x then t0i w r
 else if r.pos=w.length∨(p0d g (x03 r.slots)).testBit (w.getD r.pos.toNat 0).toNat=true then putF { r with errs:=r.errs ++ [⟨1,r.pos,x⟩] } ⟨2,x,0,0,[]⟩
 else t0i w r
def r08 (F:FarF) (g:TGram) (w:List Int) (r:TRun) (k:Int) (c:Int×Int):TRun:=
 if c.1<0 then { r with code:=2 }
 else if r.look<c.2 then { r with look:=r.look+1 }
 else if F g w ((g.parts.getD k.toNat []).getD c.1.toNat [] ++ x03 r.slots) r.pos.toNat=0 then
  (if r.pos<w.length then t0i w { r with look:=0 } else putF { r with look:=0,errs:=r.errs ++ [⟨2,r.pos,k⟩] } ⟨3,k,0,0,[]⟩)
 else { putF { r with look:=0 } ⟨1,k,c.1,0,[]⟩ with slots:=r.slots.dropLast ++ ((g.parts.getD k.toNat []).getD c.1.toNat []).reverse.map fun x=>⟨x,(r.tree.nodes.length:Int)⟩ }
def u1v (F:FarF) (g:TGram) (w:List Int) (r:TRun) (k:Int):TRun:=r08 F g w r k (x0y F g k (x03 r.slots) w r.pos.toNat)
def goF (F:FarF) (g:TGram) (w:List Int) (r:TRun):TRun:=match r.slots.getLast? with
 | none=>if r.pos<w.length then t0i w r else { r with code:=1 }
 | some s=>if s.sym<100 then v02 g w r s.sym else u1v F g w r (s.sym - 100)
def o04 (F:FarF) (g:TGram) (w:List Int) (r:TRun):TRun:=if r.code≠0 then r else if runC g w r=true then goF F g w { r with cost:=r.cost+1 } else { r with code:=2 }
def s0x (F:FarF) (g:TGram) (w:List Int) (r:TRun):TRun:=if r.code≠0 then r else if inB g w=true then o04 F g w r else { r with code:=2 }
def r0j (F:FarF) (g:TGram) (w:List Int):Nat→TRun→TRun
 | 0,r=>r
 | n+1,r=>if r.code=0 then r0j F g w n (s0x F g w r) else r
def run0:TRun:=⟨0,0,0,0,[⟨100, -1⟩],⟨[]⟩,[]⟩
theorem s0q {g:TGram} {w:List Int} {r:TRun} (h:runC g w r=true):0≤r.pos∧r.pos≤w.length:=by
 simp only[runC,Bool.and_eq_true,z0l] at h
 exact h.1.1.1
theorem r0y {g:TGram} {w:List Int} {r:TRun} (h:runC g w r=true):r.slots.length≤200∧∀s∈r.slots,v0k g.parts.length r.tree.nodes s=true:=by
 simp only[runC,Bool.and_eq_true,decide_eq_true_eq] at h
 exact⟨h.1.2,List.all_eq_true.1 h.2⟩
theorem k02 {α:Type} (w:α→Nat) (xs:List α):wL w xs.dropLast≤wL w xs:=by
 rw[List.dropLast_eq_take]; exact x0h w xs _
theorem o1l {α:Type} (w:α→Nat) (a:α): ∀(xs:List α) (i:Nat) (h:i<xs.length),wL w (xs.set i a)+w xs[i]=wL w xs+w a
 | x :: xs,0,_=>by simp only[List.set_cons_zero,wL,List.getElem_cons_zero]; omega
 | x :: xs,i+1,h=>by
   have:=o1l w a xs i (by simpa using h)
   simp only[List.set_cons_succ,wL,List.getElem_cons_succ]; omega
theorem b08 (ns:List TNode) (up:Int) (me:Nat):wL y0m (u0i ns up me)≤wL y0m ns+1:=by
 unfold u0i
 split
 ·by_cases h:up.toNat<ns.length
  ·have e:=o1l y0m { ns.getD up.toNat default with kids:=(ns.getD up.toNat default).kids ++ [(me:Int)] } ns up.toNat h
   have e2:ns.getD up.toNat default=ns[up.toNat]:=by rw[List.getD_eq_getElem?_getD,List.getElem?_eq_getElem h,Option.getD_some]
   rw[e2] at e ⊢
   simp only[y0m,z0y,v09,wL,w0] at e ⊢
   omega
  ·rw[List.set_eq_of_length_le (by omega)]; omega
 ·omega
theorem a1t (r:TRun) (n:TNode) (hn:n.kids=[]):wRun (putF r n)≤wRun r+2:=by
 unfold putF
 split
 ·omega
 ·rename_i s _
  have h1:=b08 (r.tree.nodes ++ [n]) s.up r.tree.nodes.length
  have h2:=k02 x0c r.slots
  rw[z0y] at h1
  simp only[wRun,x0q,wL,y0m,hn] at h1 ⊢
  omega
theorem r1c (w:List Int) (r:TRun):wRun (t0i w r)≤wRun r+1:=by
 simp only[t0i,wRun,z0y,wL,wErr]; omega
end
end Go.Am
