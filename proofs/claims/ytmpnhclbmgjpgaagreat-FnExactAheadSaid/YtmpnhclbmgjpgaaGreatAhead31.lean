/- Text 31 for FnExactAhead. -/
import Derived.Test.YtmpnhclbmgjpgaaGreatAhead30
set_option linter.unusedVariables false
set_option linter.unusedSimpArgs false
namespace Go.Am
open Go.Proofs
set_option maxHeartbeats 4000000
set_option maxRecDepth 100000
attribute [-simp] BitVec.toNat_or BitVec.toNat_and BitVec.toNat_ofInt
section
attribute [-simp] z03 z05 z02
def c11:K:=dc 0x45840072fc5830470820405150012fc543046502e530044d20010920c11850404110012fc44318640f180603daa38f381003daa3ce3410880410390400c00000000000000c050d30004230b2411cb2800422830462400081c00421c30461850010850c618e000200103daa043172ac10c28ea0430000000000000000001c7568483047568202040
def k1o:Nat×List RV:=(23,[.c 4 7 true])
theorem c_203:z01 PA 203 k1o c11:=by unfold z01; kernel_rfl
theorem o0d (w:List Int) (r:TRun) (hr:wRun r<2 ^ 31) (hp:0≤r.pos) (hp2:r.pos<w.length) (hw:w.length<2 ^ 31):z06 Tryz.prog 203 [.one (.ar false 0 1 (w.map rI)),.agg (rRun r)] (.agg (rRun (t0i w r))):=by
 refine Prun c_203 (by simp[k1o]) (by simp) ?_
 (conv in c11=>reduce); unfold k1o
 obtain⟨c1,c2,c3,c4,ss,⟨ns⟩,es⟩:=r
 simp only[wRun] at hr
 simp only at hp hp2
 have hle:=z0a wErr es
 obtain⟨p,rfl⟩: ∃p:Nat,c2=p:=⟨c2.toNat,by omega⟩
 have hpn:p<w.length:=by omega
 have hg:w.getD p 0=w[p]:=by rw[List.getD_eq_getElem?_getD,List.getElem?_eq_getElem hpn,Option.getD_some]
 have w1:IntKind.i64.wrap ((p:Int)+1)=p+1:=z08 (by omega) (by omega)
 have hb:es.length+1≤4294967296:=by omega
 simp[rRun,t0i,hpn,hp2,w1,hb,hg,rErr]
 rw[List.take_of_length_le (by simp)]
def b14:K:=dc 0x75f0012fc7de04679935d0b970011c6c00426da0466993590002015980012fc6171865c43565480180f6a8e5540400f6a8f513042301040e410030000000000000030144d200109244d0474500010903c118f38d38000d04030b00108b28118a24d2400081c00421c6186185345000100016000200
def j1q:Nat×List RV:=(32,[])
theorem c_248:z01 PA 248 j1q b14:=by unfold z01; kernel_rfl
theorem o0e (t:Nat) (w:List Int) (r:TRun) (hr:wRun r<2 ^ 31) (hp:0≤r.pos) (hp2:r.pos<w.length) (hw:w.length<2 ^ 31):o0s Tryz.prog 248 [.one (.pt 7 1000 [] 0 0),.one (.ar false 0 1 (w.map rI))] ⟨t,7,[rRun r]⟩ ⟨t,7,[rRun (t0i w r)]⟩ (.tup []):=by
 refine q03 c_248 (by simp[j1q]) (by simp) ?_
 (conv in b14=>reduce); unfold j1q
 obtain⟨c1,c2,c3,c4,ss,⟨ns⟩,es⟩:=r
 simp only[wRun] at hr
 simp only at hp hp2
 have hle:=z0a wErr es
 obtain⟨p,rfl⟩: ∃p:Nat,c2=p:=⟨c2.toNat,by omega⟩
 have hpn:p<w.length:=by omega
 have hg:w.getD p 0=w[p]:=by rw[List.getD_eq_getElem?_getD,List.getElem?_eq_getElem hpn,Option.getD_some]
 have w1:IntKind.i64.wrap ((p:Int)+1)=p+1:=z08 (by omega) (by omega)
 have hb:es.length+1≤4294967296:=by omega
 simp[rRun,t0i,hpn,hp2,w1,hb,hg,rErr]
end
section
attribute [-simp] z03 z05 z02
theorem t1m (ss:List TSlot):(x03 ss).length=ss.length - 1:=by simp[x03]
def RsT (ss:List TSlot) (i:Nat):List Int:=((ss.dropLast.drop i).map TSlot.sym).reverse
theorem t1p (ss:List TSlot):RsT ss 0=x03 ss:=rfl
theorem t1q {ss:List TSlot} {i:Nat} (h:ss.length - 1≤i):RsT ss i=[]:=by
 rw[RsT,List.drop_eq_nil_of_le (by simpa using h)]; rfl
theorem z10 {ss:List TSlot} {i:Nat} (h:i<ss.length - 1):RsT ss i=RsT ss (i+1) ++ [(ss[i]'(by omega)).sym]:=by
 rw[RsT,List.drop_eq_getElem_cons (by simpa using h),List.map_cons,List.reverse_cons,RsT]
 simp
def Rs1J (c1 c2 c3 c4:Int) (ss:List TSlot) (ns:List TNode) (es:List TErr) (n:Nat) (σ:St):Prop:=∃(i:Nat) (T:List Int),i≤ss.length - 1∧n=i∧T=RsT ss i∧σ=⟨[(1,.one (.pt 7 1 [] 0 0)),(3,.one (.vw 3 1 3 [] 0 T.length)),(4,aI ((i:Int) - 1))],[(1,⟨61,7,[[cI c1,cI c2,cI c3,cI c4,.ar false 0 2 (ss.map x0v),.ar false 0 5 (ns.map x0g),.ar false 0 3 (es.map sErr)]]⟩),(3,⟨3,1,T.map rI⟩)]⟩
def Rs2J (R:List C) (ss:List TSlot) (n:Nat) (σ:St):Prop:=∃(i:Nat) (T:List Int),i≤ss.length - 1∧n=i∧T=RsT ss i∧σ=⟨[(0,.one (.ps R)),(3,.one (.vw 3 1 3 [] 0 T.length)),(4,aI ((i:Int) - 1))],[(3,⟨3,1,T.map rI⟩)]⟩
def c1t:K:=dc 0x1025c15c300204010d04d0b930110c1000c10d605654e0080433955010010cf5130010934801924500874440103c00423c110638300a0411400060cb08b03929010a1000810000371030441030431c0144241244e480442070c71800421811061410000c50450000433c20400810c10fc041007568202040
def j1f:Nat×List RV:=(24,[.t 2])
theorem c_237:z01 PA 237 j1f c1t:=by unfold z01; kernel_rfl
theorem f00 (r:TRun) (hr:wRun r<2 ^ 31) (hs:r.slots≠[]):z06 Tryz.prog 237 [.agg (sRun r)] (.one (.ar true 3 1 ((x03 r.slots).map rI))):=by
 refine Prun c_237 (by simp[j1f]) (by simp) ?_
 (conv in c1t=>reduce); unfold j1f
 obtain⟨c1,c2,c3,c4,ss,⟨ns⟩,es⟩:=r
 simp only[wRun] at hr
 have hls:=z0a x0c ss
 have hs1:1≤ss.length:=by
  cases ss with
  | nil=>exact absurd rfl hs
  | cons=>simp
 have w1:IntKind.i64.wrap ((ss.length:Int) - 2)=ss.length - 2:=z08 (by omega) (by omega)
 simp[sRun,w1]
 refine z04 (Rs1J c1 c2 c3 c4 ss ns es) (ss.length - 1) ⟨ss.length - 1,[],by omega,rfl,(t1q (by omega)).symm,by simp; omega⟩ ?_
 rintro n σ ⟨i,T,hi,rfl,hT,rfl⟩
 cases n with
 | zero=>
   rw[t1p] at hT
   subst hT
   simp
 | succ i=>
   have hi1:i<ss.length:=by omega
   have hst:=@z10 ss i (by omega)
   rw[← hT] at hst
   have hTl:T.length=ss.length - 1 - (i+1):=by rw[hT,RsT]; simp
   have e1:((i+1:Nat):Int) - 1=i:=by omega
   have wi:IntKind.i64.wrap ((i:Int) - 1)=i - 1:=z08 (by omega) (by omega)
   have hb:T.length+1≤4294967296:=by omega
   obtain⟨⟨x,u⟩,hx⟩: ∃s,ss[i]'hi1=s:=⟨_,rfl⟩
   rw[hx] at hst
   simp only[e1]
   simp[hi1,hx,x0v,hb,wi]
   exact⟨i,by omega,i,T ++ [x],by omega,rfl,hst.symm,by simp[rI]⟩
def b1q:K:=dc 0x10268168300204010e04e0b934110d1000c10d905960f0080433985c10010cf5d60010965401955130875040134800424911064503500003c300c0411400060cc08c0392d010b1000810000371030041030031c0144281284e490442480c81c00421c61061853450001c10000c10c10fc0410400810c10fc041040
def i1d:Nat×List RV:=(27,[.t 2])
theorem c_281:z01 PA 281 i1d b1q:=by unfold z01; kernel_rfl
theorem f03 (r:TRun) (hr:wRun r<2 ^ 31) (hs:r.slots≠[]):z06 Tryz.prog 281 [.one (.ps (sRun r))] (.one (.ar true 3 1 ((x03 r.slots).map rI))):=by
 refine Prun c_281 (by simp[i1d]) (by simp) ?_
 (conv in b1q=>reduce); unfold i1d
 obtain⟨c1,c2,c3,c4,ss,⟨ns⟩,es⟩:=r
 simp only[wRun] at hr
 have hls:=z0a x0c ss
 have hs1:1≤ss.length:=by
  cases ss with
  | nil=>exact absurd rfl hs
  | cons=>simp
 have w1:IntKind.i64.wrap ((ss.length:Int) - 2)=ss.length - 2:=z08 (by omega) (by omega)
 simp[sRun,w1]
 refine z04 (Rs2J (sRun ⟨c1,c2,c3,c4,ss,⟨ns⟩,es⟩) ss) (ss.length - 1) ⟨ss.length - 1,[],by omega,rfl,(t1q (by omega)).symm,by simp[sRun]; omega⟩ ?_
 rintro n σ ⟨i,T,hi,rfl,hT,rfl⟩
 cases n with
 | zero=>
   rw[t1p] at hT
   subst hT
   simp
 | succ i=>
   have hi1:i<ss.length:=by omega
   have hst:=@z10 ss i (by omega)
   rw[← hT] at hst
   have hTl:T.length=ss.length - 1 - (i+1):=by rw[hT,RsT]; simp
   have e1:((i+1:Nat):Int) - 1=i:=by omega
   have wi:IntKind.i64.wrap ((i:Int) - 1)=i - 1:=z08 (by omega) (by omega)
   have hb:T.length+1≤4294967296:=by omega
   obtain⟨⟨x,u⟩,hx⟩: ∃s,ss[i]'hi1=s:=⟨_,rfl⟩
   rw[hx] at hst
   simp only[e1]
   simp[sRun,hi1,hx,x0v,hb,wi]
   exact⟨i,by omega,i,T ++ [x],by omega,rfl,hst.symm,by simp[rI,sRun]⟩
end
section
attribute [-simp] z03 z05 z02
abbrev FM:=List (List (Option Nat))
def farC (o:Option Nat):List C:=[cI ((o.getD 0:Nat):Int)]
def farR (r:List (Option Nat)):List C:=[.ar true 3 1 (r.map farC)]
def l8C (g:TGram) (w:List Int) (M:WM) (L:FM):List C:=[.op 376 4 (l7C g w M),.ar true 54 1 (L.map farR),.ar true 374 1 (L.map donR)]
structure FOk (g:TGram) (w:List Int) (L:FM):Prop where
 len:L.length=g.parts.length
 row: ∀k (h:k<L.length),L[k].length=w.length+1
 ok: ∀k i (h:k<L.length) (h2:i<L[k].length) f,L[k][i]=some f→IsFar (Tch g.parts w [100+(k:Int)] i) f
theorem FOk.put {g:TGram} {w:List Int} {L:FM} (h:FOk g w L) {k i:Nat} (hk:k<L.length) {f:Nat} (hv:IsFar (Tch g.parts w [100+(k:Int)] i) f):FOk g w (L.set k (L[k].set i (some f))):=by
 refine⟨by rw[List.length_set]; exact h.len,fun k' hk'=>?_,fun k' i' hk' hi' v' he=>?_⟩
 ·rw[List.getElem_set]
  split
  ·rw[List.length_set]; exact h.row k hk
  ·exact h.row k' (by simpa using hk')
 ·by_cases e:k=k'
  ·subst e
   simp only[List.getElem_set_self] at he hi'
   rw[List.getElem_set] at he
   split at he
   ·rename_i e2; subst e2
    simp only[Option.some.injEq] at he
    subst he; exact hv
   ·exact h.ok k i' hk (by simpa using hi') v' he
  ·simp only[List.getElem_set_ne e] at he hi'
   exact h.ok k' i' (by simpa using hk') hi' v' he
def f0w (n m:Nat):FM:=List.replicate n (List.replicate m none)
theorem u1j (g:TGram) (w:List Int):FOk g w (f0w g.parts.length (w.length+1)):=by
 refine⟨List.length_replicate ..,fun k h=>?_,fun k i h h2 v he=>?_⟩
 ·simp[f0w]
 ·simp[f0w] at he
def u0z (g:TGram) (w:List Int) (t:Nat) (row:List Int) (i:Nat) (r:A) (H:List (Nat×Obj)):Prop:=∃(f:Nat) (M:WM) (L:FM),IsFar (Tch g.parts w row i) f∧WOk g w M∧FOk g w L∧H=[(1000,⟨t,3,[l8C g w M L]⟩)]∧r=aI f
def Bst (ps:List (List (List Int))) (w row:List Int) (i s m:Nat):Prop:=m=i∨∃s' j,s'<s∧Drv ps w (row.take s') i j∧(m=j∨∃x,row[s']?=some x∧100≤x∧Tch ps w [x] j m)
theorem x1w {ps:List (List (List Int))} {w row:List Int} {i:Nat} (hi:i≤w.length): ∀{s:Nat},s≤row.length→∀m,(Bst ps w row i s m∨Drv ps w (row.take s) i m)↔Tch ps w (row.take s) i m
 | 0,_,m=>by
   rw[List.take_zero,g00,q0k]
   constructor
   ·rintro ((h | ⟨s',j,h,_⟩) | ⟨h,h2⟩)
    ·exact⟨h.symm,hi⟩
    ·omega
    ·exact⟨h,h2⟩
   ·rintro⟨h,_⟩; exact .inl (.inl h.symm)
 | s+1,hs,m=>by
   have ih:=x1w (ps:=ps) (row:=row) hi (s:=s) (by omega)
   have hlt:s<row.length:=by omega
   rw[List.take_succ_eq_append_getElem hlt,z1b,← ih,p0b]
   constructor
   ·rintro ((h | ⟨s',j,h1,h2,h3⟩) | ⟨j,h1,h2⟩)
    ·exact .inl (.inl (.inl h))
    ·by_cases e:s'=s
     ·subst e
      right
      rcases h3 with rfl | ⟨x,hx,_,h4⟩
      ·exact⟨m,h2,.here h2.le.2⟩
      ·rw[List.getElem?_eq_getElem hlt,Option.some.injEq] at hx
       exact⟨j,h2,by rw[hx]; exact h4⟩
     ·exact .inl (.inl (.inr ⟨s',j,by omega,h2,h3⟩))
    ·exact .inr ⟨j,h1,i0n h2⟩
   ·rintro ((h | h) | ⟨j,h1,h2⟩)
    ·left
     rcases h with h | ⟨s',j,h1,h2,h3⟩
     ·exact .inl h
     ·exact .inr ⟨s',j,by omega,h2,h3⟩
    ·exact .inl (.inr ⟨s,m,by omega,h,.inl rfl⟩)
    ·by_cases c:row[s]<100
     ·rcases (h0z c h1.le.2).1 h2 with h3 | h3
      ·exact .inl (.inr ⟨s,j,by omega,h1,.inl h3⟩)
      ·exact .inr ⟨j,h1,(m06 c).2 h3⟩
     ·exact .inl (.inr ⟨s,j,by omega,h1,.inr ⟨row[s],List.getElem?_eq_getElem hlt,by omega,h2⟩⟩)
def Bsj (ps:List (List (List Int))) (w row:List Int) (i s:Nat) (x:Int) (j m:Nat):Prop:=Bst ps w row i s m∨∃j',j'<j∧Drv ps w (row.take s) i j'∧(m=j'∨(100≤x∧Tch ps w [x] j' m))
theorem bsj_0 {ps:List (List (List Int))} {w row:List Int} {i s:Nat} {x:Int} {m:Nat}:Bsj ps w row i s x 0 m↔Bst ps w row i s m:=
 ⟨fun h=>h.elim id fun ⟨j,h,_⟩=>by omega,.inl⟩
theorem o1y {ps:List (List (List Int))} {w row:List Int} {i s:Nat} (h:s<row.length) {m:Nat}:Bst ps w row i (s+1) m↔Bsj ps w row i s row[s] (w.length+1) m:=by
 constructor
 ·rintro (h1 | ⟨s',j,h1,h2,h3⟩)
  ·exact .inl (.inl h1)
  ·by_cases e:s'=s
   ·subst e
    refine .inr ⟨j,by have:=h2.le; omega,h2,h3.imp id fun ⟨x,h4,h5,h6⟩=>?_⟩
    rw[List.getElem?_eq_getElem h,Option.some.injEq] at h4
    subst h4; exact⟨h5,h6⟩
   ·exact .inl (.inr ⟨s',j,by omega,h2,h3⟩)
 ·rintro ((h1 | ⟨s',j,h1,h2,h3⟩) | ⟨j,h1,h2,h3⟩)
  ·exact .inl h1
  ·exact .inr ⟨s',j,by omega,h2,h3⟩
  ·exact .inr ⟨s,j,by omega,h2,h3.imp id fun ⟨h4,h5⟩=>⟨row[s],List.getElem?_eq_getElem h,h4,h5⟩⟩
theorem f19 {ps:List (List (List Int))} {w row:List Int} {i s:Nat} {x:Int} {j m:Nat} (h: ¬Drv ps w (row.take s) i j):Bsj ps w row i s x (j+1) m↔Bsj ps w row i s x j m:=by
 refine or_congr Iff.rfl ⟨fun ⟨j',h1,h2,h3⟩=>?_,fun ⟨j',h1,h2⟩=>⟨j',by omega,h2⟩⟩
 by_cases e:j'=j
 ·subst e; exact absurd h2 h
 ·exact⟨j',by omega,h2,h3⟩
theorem o1z {ps:List (List (List Int))} {w row:List Int} {i s:Nat} {x:Int} {j m:Nat} (h:Drv ps w (row.take s) i j):Bsj ps w row i s x (j+1) m↔(Bsj ps w row i s x j m∨m=j)∨(100≤x∧Tch ps w [x] j m):=by
 constructor
 ·rintro (h1 | ⟨j',h1,h2,h3⟩)
  ·exact .inl (.inl (.inl h1))
  ·by_cases e:j'=j
   ·subst e; exact h3.elim (fun h=> .inl (.inr h)) .inr
   ·exact .inl (.inl (.inr ⟨j',by omega,h2,h3⟩))
 ·rintro ((h1 | h1) | h1)
  ·exact h1.imp id fun ⟨j',h1,h2⟩=>⟨j',by omega,h2⟩
  ·exact .inr ⟨j,by omega,h,.inl h1⟩
  ·exact .inr ⟨j,by omega,h,.inr h1⟩
theorem IsFar.one (j:Nat):IsFar (fun m=>m=j) j:=⟨rfl,fun m h=>by omega⟩
def l8Ob (g:TGram) (w:List Int) (t:Nat) (M:WM) (L:FM):Obj:=⟨t,3,[[.op 376 4 [.ar false 0 1 (g.parts.map sISS),.ar false 0 1 (w.map rI),.ar true 80 1 (M.map wayR),.ar true 374 1 (M.map donR)],.ar true 54 1 (L.map farR),.ar true 374 1 (L.map donR)]]⟩
def FrJ1 (g:TGram) (w row:List Int) (i t:Nat) (n:Nat) (σ:St):Prop:=∃(s b:Nat) (v:List Int) (M:WM) (L:FM),s≤row.length∧n=row.length - s∧IsFar (Bst g.parts w row i s) b∧Cnt (w.length+1) v (Drv g.parts w (row.take s) i)∧WOk g w M∧FOk g w L∧
 σ=⟨[(0,.one (.pt 3 1000 [] 0 0)),(1,.one (.ar false 0 1 (row.map rI))),(7,aI b),(8,.one (.vw 3 1 8 [] 0 v.length)),(9,aI s)],[(8,⟨3,1,v.map rI⟩),(1000,l8Ob g w t M L)]⟩
def FrJ2 (g:TGram) (w row:List Int) (i t s:Nat) (x:Int) (v:List Int) (n:Nat) (σ:St):Prop:=∃(j b:Nat) (M:WM) (L:FM),j≤w.length+1∧n=w.length+1 - j∧IsFar (Bsj g.parts w row i s x j) b∧WOk g w M∧FOk g w L∧
 σ=⟨[(0,.one (.pt 3 1000 [] 0 0)),(1,.one (.ar false 0 1 (row.map rI))),(7,aI b),(8,.one (.vw 3 1 8 [] 0 v.length)),(9,aI s),(10,aI j)],[(8,⟨3,1,v.map rI⟩),(1000,l8Ob g w t M L)]⟩
def FrJ3 (g:TGram) (w row:List Int) (i t:Nat) (v:List Int) (M:WM) (L:FM) (n:Nat) (σ:St):Prop:=∃(j b:Nat),j≤w.length+1∧n=w.length+1 - j∧IsFar (fun m=>Bst g.parts w row i row.length m∨(m<j∧Drv g.parts w row i m)) b∧
 σ=⟨[(0,.one (.pt 3 1000 [] 0 0)),(7,aI b),(8,.one (.vw 3 1 8 [] 0 v.length)),(11,aI j)],[(8,⟨3,1,v.map rI⟩),(1000,l8Ob g w t M L)]⟩
def b1z:K:=dc 0x41a3e01ce81c008100b6b806aa02e59e00129a0b0030431e2e01ca8878838084a05c682c0c281c01017f80afa00e5ee0f12ea1de00042b687386f8047b282c0ae82001410051401060d8e02a285f83f83849e85b80e6a15e000429685380469284f8363a12e000428a8478006868438360a0001fa0b00a040000dcb20708018b2070041c414b039041040009601602e570045c90030483b805ea0de0ce07e031f80ac41da0801ca0be01278048e0159ba02e4ae0011aa09019a09018a01017a06e000425a8178006568138354a0000c00920718510308100a283d09204fc100124a901902e630048ca0030431c3e014e80b8c82128152a01e00e330f342c411a0a010a20ab9dc110fa3600108ea35d011cda0900ca0100ba0000aa0700b071089a20ab9c10108a2f001087a2eb411c6a09005a010050401ec044a2ba82128143a0a002a070040400c31a9081a00e682c40289c00429e69411e62809480050400031400860e20a28593848600e07c00427de04679d35d70004271b0066da35a00064a00a040000dca2481c204020a2481c10061c214a0390410400011400060d60965533445540d40404c9004040000dc92070810072481c10051c01490390410400084814914020ec15108040f00108f38018e34d3400070401cc04c080081006039041040
def i1m:Nat×List RV:=(92,[.t 6])
theorem c_297:z01 PA 297 i1m b1z:=by unfold z01; kernel_rfl
theorem v1c (g:TGram) (w:List Int) (t:Nat) (row:List Int) (i:Nat) (M:WM) (L:FM) (hM:WOk g w M) (hL:FOk g w L) (hc:y09 g=0) (hgw:z0q g<2 ^ 31) (hwl:w.length≤10) (hi:i≤w.length) (hrl:row.length<2 ^ 31) (hok:row.all (y0o g.parts.length)=true)
 (hp: ∀(pre:List Int) (x:Int) (post:List Int) (j:Nat) (M:WM) (L:FM),row=pre ++ x :: post→100≤x→Drv g.parts w pre i j→WOk g w M→FOk g w L→CallsA Tryz.prog 312 [.one (.pt 3 1000 [] 0 0),aI (x - 100),aI j] [(1000,⟨t,3,[l8C g w M L]⟩)] (u0z g w t [x] j)) :
 CallsA Tryz.prog 297 [.one (.pt 3 1000 [] 0 0),.one (.ar false 0 1 (row.map rI)),aI i] [(1000,⟨t,3,[l8C g w M L]⟩)] (u0z g w t row i):=by
 have hg:=y0t hc
 have hgl:=x0k hg
 have hend:=@x1w g.parts w row i hi row.length (Nat.le_refl _)
 rw[List.take_length] at hend
 have hfin: ∀f M L,IsFar (fun m=>Bst g.parts w row i row.length m∨Drv g.parts w row i m) f→WOk g w M→FOk g w L→u0z g w t row i (aI f) [(1000,⟨t,3,[l8C g w M L]⟩)]:=fun f M L h h2 h3=>⟨f,M,L,h.congr fun m=>(hend m).symm,h2,h3,rfl,rfl⟩
 obtain⟨z,hz,hat⟩: ∃z:List Int,Cnt (w.length+1) z (fun j=>j=i)∧∀x2 x3,z06 Tryz.prog 299 [.one (.ps [.ar false 0 1 (g.parts.map sISS),.ar false 0 1 (w.map rI),.ar false 0 1 x2,.ar false 0 1 x3]),aI i] (.one (.ar true 3 1 (z.map rI))):=⟨_,w1f (by omega),fun x2 x3=>q0m w (g.parts.map sISS) x2 x3 i (by omega) hi⟩
 have hsy: ∀x∈row,100≤x→prt x<g.parts.length:=fun x hx h100=>by
  have:=List.all_eq_true.1 hok x hx
  simp only[y0o,Bool.or_eq_true,z0l] at this
  unfold prt; omega
 have hgo: ∀(s:Nat) (h:s<row.length) (v:List Int) (M:WM),Cnt (w.length+1) v (Drv g.parts w (row.take s) i)→WOk g w M→CallsA Tryz.prog 298 [.one (.pt 4 1000 [] 0 0),.one (.ar false 0 1 ([row[s]].map rI)),.one (.ar false 0 1 (v.map rI))] [(1000,⟨1000000000+376,4,[l7C g w M]⟩)] (fun r H=>∃(v:List Int) (M:WM),Cnt (w.length+1) v (Drv g.parts w (row.take (s+1)) i)∧WOk g w M∧H=[(1000,⟨1000000000+376,4,[l7C g w M]⟩)]∧r = .one (.ar true 3 1 (v.map rI))):=by
  intro s h v M hv hM
  refine CallsA.mono (v1a g w (1000000000+376) [row[s]] v _ M hM hv hg hwl (by simp) (by rw[List.all_cons,List.all_nil,Bool.and_true]; exact List.all_eq_true.1 hok _ (List.getElem_mem h)) ?_) ?_
  ·intro pre x post a j M hr hx ha hd hM
   have hxm:x∈row:=by
    have:x∈[row[s]]:=by rw[hr]; simp
    rw[List.mem_singleton] at this
    rw[this]; exact List.getElem_mem h
   have e:(x - 100:Int)=((prt x:Nat):Int):=by unfold prt; omega
   have e2:x=100+((prt x:Nat):Int):=by unfold prt; omega
   rw[e]
   have:=b0z g w (1000000000+376) hc hgw hwl _ (prt x) j M (Nat.lt_succ_self _) hM (hsy x hxm hx) hd.le.2
   rwa [← e2] at this
  ·rintro r H ⟨v,M,h1,h2,h3,h4⟩
   refine⟨v,M,h1.congr fun j _=>?_,h2,h3,h4⟩
   rw[List.take_succ_eq_append_getElem h,p0b]
 generalize hR:u0z g w t row i=R at hfin ⊢
 clear hR
 refine q03 c_297 (by simp[i1m]) (by simp) ?_
 (conv in b1z=>reduce); unfold i1m
 obtain⟨ps⟩:=g
 simp only[l8C,l7C,Nat.reduceAdd] at hp hfin hgo hgl hat ⊢
 have hmax:=fun a b=>i0y a b
 have hzl:=hz.1
 simp
 refine z00 (hat (z0i (M.map wayR)) (z0i (M.map donR))) (by simp) ?_
 simp
 refine z04 (FrJ1 ⟨ps⟩ w row i t) row.length ⟨0,i,z,M,L,by omega,by omega,(IsFar.one i).congr fun m=>⟨fun h=>h.elim id fun ⟨s',j,h,_⟩=>by omega,.inl⟩,hz.congr fun j hj=>?_,hM,hL,by simp[l8Ob]⟩ ?_
 ·rw[List.take_zero,q0k]; exact⟨fun h=>h.1.symm,fun h=>⟨h.symm,hi⟩⟩
 rintro n σ ⟨s,b,v,M,L,hs,rfl,hb,hv,hM,hL,rfl⟩
 have hvl:=hv.1
 by_cases h:s<row.length
 case neg=>
  have e:s=row.length:=by omega
  subst e
  rw[List.take_length] at hv
  simp[l8Ob]
  refine z04 (FrJ3 ⟨ps⟩ w row i t v M L) (w.length+1) ⟨0,b,by omega,by omega,hb.congr fun m=>⟨fun h=>h.elim id fun ⟨h,_⟩=>by omega,.inl⟩,by simp[l8Ob]⟩ ?_
  rintro n σ ⟨j,b,hj,rfl,hb,rfl⟩
  by_cases c2:j≤w.length
  case neg=>
   have nw: ¬(j:Int)≤w.length:=by omega
   have hR:=hfin b M L (hb.congr fun m=>or_congr Iff.rfl ⟨fun h=>⟨by have:=h.le; omega,h⟩,fun h=>h.2⟩) hM hL
   simp[nw,l8Ob]
   exact hR
  have c2':(j:Int)≤w.length:=by omega
  have wj:IntKind.i64.wrap ((j:Int)+1)=j+1:=z08 (by omega) (by omega)
  have hjl:j<v.length:=by omega
  have hjl':(j:Int)<v.length:=by omega
  by_cases c3:0<v[j]
  ·have hd:=(hv.2.2 j hjl).1 c3
   have hb2:=(hb.max (IsFar.one j)).congr (T:=fun m=>Bst ps w row i row.length m∨(m<j+1∧Drv ps w row i m)) fun m=>by
    rw[or_assoc]
    refine or_congr Iff.rfl ⟨fun ⟨h1,h2⟩=>?_,fun h=>h.elim (fun ⟨h1,h2⟩=>⟨by omega,h2⟩) fun h=>by subst h; exact⟨by omega,hd⟩⟩
    by_cases e:m=j
    ·exact .inr e
    ·exact .inl ⟨by omega,h2⟩
   have hmx:=hmax b j
   have em:max (b:Int) j=((Nat.max b j:Nat):Int):=by rw[Nat.max_eq_max]; omega
   rw[em] at hmx
   simp[c2',hjl,hjl',c3,l8Ob]
   first | refine z00 hmx (by simp) ?_ | refine z0c hmx (by simp) ?_ | refine z0z hmx (by simp) ?_ | refine z0e hmx rfl rfl (by simp) (by simp) ?_ | refine⟨_,by simp,hmx,?_⟩
   try simp[wj]
   exact⟨w.length+1 - (j+1),by omega,j+1,_,by omega,rfl,hb2,by simp[l8Ob]⟩
  ·have hd: ¬Drv ps w row i j:=fun h=>c3 ((hv.2.2 j hjl).2 h)
   have hb2:=hb.congr (T:=fun m=>Bst ps w row i row.length m∨(m<j+1∧Drv ps w row i m)) fun m=>by
    refine or_congr Iff.rfl ⟨fun ⟨h1,h2⟩=>?_,fun ⟨h1,h2⟩=>⟨by omega,h2⟩⟩
    by_cases e:m=j
    ·subst e; exact absurd h2 hd
    ·exact⟨by omega,h2⟩
   simp[c2',hjl,hjl',c3,l8Ob,wj]
   exact⟨w.length+1 - (j+1),by omega,j+1,b,by omega,rfl,hb2,by simp[l8Ob]⟩
 have h':(s:Int)<row.length:=by omega
 have hgo:=fun M hM=>hgo s h v M hv hM
 have hbe:=@o1y ps w row i s h
 have hxm:=List.all_eq_true.1 hok _ (List.getElem_mem h)
 have hrow:row=row.take s ++ row[s] :: row.drop (s+1):=by
  rw[← List.drop_eq_getElem_cons h,List.take_append_drop]
 have hslc:((row.drop s).take 1)=[row[s]]:=by rw[List.drop_eq_getElem_cons h]; rfl
 obtain⟨x,hx⟩: ∃x,row[s]=x:=⟨_,rfl⟩
 rw[hx] at hgo hbe hxm hrow hslc
 have hxl:0≤x∧x<120:=by
  simp only[y0o,Bool.or_eq_true,z0l] at hxm
  omega
 have ws:IntKind.i64.wrap ((s:Int)+1)=s+1:=z08 (by omega) (by omega)
 simp[h,l8Ob]
 refine z04 (FrJ2 ⟨ps⟩ w row i t s x v) (w.length+1) ⟨0,b,M,L,by omega,by omega,hb.congr fun m=>bsj_0,hM,hL,by simp[l8Ob]⟩ ?_
 rintro n σ ⟨j,b,M,L,hj,rfl,hb,hM,hL,rfl⟩
 by_cases c2:j≤w.length
 case neg=>
  have e:j=w.length+1:=by omega
  subst e
  have nw: ¬(w.length:Int)+1≤w.length:=by omega
  have hs1:(s:Int)+1≤row.length:=by omega
  have hs2:(s:Int)≤(s:Int)+1:=by omega
  have hs3:(0:Int)≤(s:Int)+1:=by omega
  have hs4:((s:Int)+1).toNat=s+1:=by omega
  have hs5:s+1≤row.length:=by omega
  simp[nw,l8Ob,ws,hs1,hs2,hs4]
  have esl:z0i (List.drop s (List.take (s+1) (List.map rI row)))=[x].map rI:=by
   rw[← List.map_take,← List.map_drop,t0x,List.drop_take,Nat.add_sub_cancel_left,hslc]
  rw[esl]
  refine CallsA.mono (hgo M hM) ?_
  rintro r H ⟨v',M',hv',hM',rfl,rfl⟩
  refine⟨_,rfl,rfl,rfl,.inr rfl,by simp,?_⟩
  have hvl':=hv'.1
  simp[ws]
  exact⟨row.length - (s+1),by omega,s+1,b,v',M',L,by omega,rfl,hb.congr fun m=>hbe,hv',hM',hL,by simp[l8Ob]⟩
 have c2':(j:Int)≤w.length:=by omega
 have wj:IntKind.i64.wrap ((j:Int)+1)=j+1:=z08 (by omega) (by omega)
 have hjl:j<v.length:=by omega
 have hjl':(j:Int)<v.length:=by omega
 by_cases c3:v[j]=0
 ·simp[c2',hjl,hjl',c3,l8Ob,wj]
  exact⟨w.length+1 - (j+1),by omega,j+1,b,M,L,by omega,rfl,hb.congr fun m=>f19 (hv.not hjl c3),hM,hL,by simp[l8Ob]⟩
 have hd:=hv.yes hjl c3
 have hyes:=fun m=>@o1z ps w row i s x j m hd
 have hmx:=hmax b j
 have em:max (b:Int) j=((Nat.max b j:Nat):Int):=by rw[Nat.max_eq_max]; omega
 rw[em] at hmx
 have hb2:=hb.max (IsFar.one j)
 simp[c2',hjl,hjl',c3,l8Ob]
 first | refine z00 hmx (by simp) ?_ | refine z0c hmx (by simp) ?_ | refine z0z hmx (by simp) ?_ | refine z0e hmx rfl rfl (by simp) (by simp) ?_ | refine⟨_,by simp,hmx,?_⟩
 try simp[h,h',hx]
 generalize Nat.max b j=b2 at *
 by_cases c4:100≤x
 case neg=>
  simp[c4,wj]
  exact⟨w.length+1 - (j+1),by omega,j+1,b2,M,L,by omega,rfl,hb2.congr fun m=>by rw[hyes]; exact⟨fun h=>h.elim id fun h=>absurd h.1 c4,.inl⟩,hM,hL,by simp[l8Ob]⟩
 have hp2:=hp _ x _ j M L hrow c4 hd hM hL
 have wx:IntKind.i64.wrap (x - 100)=x - 100:=z08 (by omega) (by omega)
 simp[c4,wx,h,h',hx]
 refine CallsA.mono hp2 ?_
 rintro r H ⟨f,M',L',hf,hM',hL',rfl,rfl⟩
 refine⟨_,rfl,rfl,rfl,.inl rfl,by simp,?_⟩
 have hmx2:=hmax b2 f
 have em2:max (b2:Int) f=((Nat.max b2 f:Nat):Int):=by rw[Nat.max_eq_max]; omega
 rw[em2] at hmx2
 have hb3:=(hb2.max hf).congr (T:=Bsj ps w row i s x (j+1)) fun m=>by rw[hyes]; exact or_congr Iff.rfl ⟨fun h=>h.2,fun h=>⟨c4,h⟩⟩
 simp[l8C,l7C]
 first | refine z00 hmx2 (by simp) ?_ | refine z0c hmx2 (by simp) ?_ | refine z0z hmx2 (by simp) ?_ | refine z0e hmx2 rfl rfl (by simp) (by simp) ?_ | refine⟨_,by simp,hmx2,?_⟩
 try simp[wj]
 exact⟨w.length+1 - (j+1),by omega,j+1,_,M',L',by omega,rfl,hb3,hM',hL',by simp[l8Ob]⟩
end
section
attribute [-simp] z03 z05 z02
def f1v:K:=dc 0x40c00072fc0c2044043daa043172ac10c28ea0430000000000000000001c05020410028ea3c107904182ae41002000000000080504040003daa043172ac10c28ea0430000000000000000001c7568481040
def m1j:Nat×List RV:=(4,[.c 0 7 true])
theorem c_101:z01 PA 101 m1j f1v:=by unfold z01; kernel_rfl
theorem k0d:z06 Tryz.prog 101 [] (.agg (rRun run0)):=by
 refine Prun c_101 (by simp[m1j]) (by simp) ?_
 (conv in f1v=>reduce); unfold m1j
 simp[run0,rRun,x0v,w01]
def d17:K:=dc 0x40c00072fc0c2044043daa043172ac10c28ea0430000000000000000001c05020410028ea3c107904182ae41002000000000080504040003daa043172ac10c28ea0430000000000000000001c7568481040
def l1v:Nat×List RV:=(4,[.c 0 7 true])
theorem c_161:z01 PA 161 l1v d17:=by unfold z01; kernel_rfl
theorem k05:z06 Tryz.prog 161 [] (.agg (rRun run0)):=by
 refine Prun c_161 (by simp[l1v]) (by simp) ?_
 (conv in d17=>reduce); unfold l1v
 simp[run0,rRun,x0v,w01]
end
end Go.Am
