/- Text 23 for FnExactAhead. -/
import Derived.Test.YtmpnhclbmgjpgaaGreatAhead22
set_option linter.unusedVariables false
set_option linter.unusedSimpArgs false
namespace Go.Am
open Go.Proofs
set_option maxHeartbeats 4000000
set_option maxRecDepth 100000
attribute [-simp] BitVec.toNat_or BitVec.toNat_and BitVec.toNat_ofInt
section
attribute [-simp] z03 z05 z02
def k0m:A:= .tup [(false,[.ar true 74 2 []]),(false,[.bool false])]
def setR:Option (List TConf)→A
 | some S=> .tup [(false,[.ar true 74 2 (S.map u0t)]),(false,[.bool true])]
 | none=>k0m
@[simp] theorem e0j (o:Option (List TConf)):u0s (setR o)=true:=by cases o <;> simp[setR,k0m]
theorem z1r (ps:w03) (cs:List TConf):w1b ps cs=setR (q0j ps cs):=by
 unfold w1b setR k0m
 cases q0j ps cs <;> rfl
end
section
attribute [-simp] z03 z05 z02
theorem a1x (v:List Nat) (k m:Nat):(v.map rF).set k (rF m)=(v.set k m).map rF:=by rw[List.map_set]
def FsJ3 (ps:List (List (List Int))) (e m i:Nat) (al:List (List Int)) (T2:List Nat) (n:Nat) (σ:St):Prop:=∃(j:Nat) (v:List Nat),j≤al.length∧n=al.length - j∧LOk ps.length v∧fsP e i (al.drop j) v=T2∧σ=⟨[(1,.one (.pt 1 1 [] 0 0)),(3,.one (.vw 3 1 3 [] 0 (z0s e 20).length)),(4,.one (.vw 54 1 4 [] 0 ps.length)),(5,aI m),(6,aI i),(7,aI j)],[(1,⟨66,1,[[.ar false 0 1 (ps.map sISS)]]⟩),(3,⟨3,1,(z0s e 20).map rI⟩),(4,⟨54,1,v.map rF⟩)]⟩
def b1i:K:=dc 0x102078051a040020401540540b94c01131400c119b05b0b968011a1800c11e50650b99001241c00c1dc0e0004bf10a279811cfa36ac236a14ea35d330e8ac53680c03281002e8c800422a8c700472681c0228bc00421e8bad0471a8180168b00042128040183a2a001082a29a011c1a06000a040271809840140002051401060e30a389c3448a10e180004281f7811df18079d00109d04019c1c02010000371c61440c11c71851030461c41470390410400c500218364265854d1185c35d60010960401951801410000371851030461851030451c214603904104004500018348249138e11140340f00108f04018e1401410000371440c11451030441c014503904104000434134c3010c10c16013a894c2c32ca00108a0401850400c904920132a1480410420c100204ea010fc0410016a8202040
def i14:Nat×List RV:=(58,[.t 2])
theorem c_273:z01 PA 273 i14 b1i:=by unfold z01; kernel_rfl
set_option maxRecDepth 200000 in
theorem m0q (g:TGram) (hg:y02 g=true) (hw:z0q g<2 ^ 31) (hl:x0d g):z06 Tryz.prog 273 [.agg (z0b g)] (.one (.ar true 54 1 ((u0j g.parts).map rF))):=by
 refine Prun c_273 (by simp[i14]) (by simp) ?_
 (conv in b1i=>reduce); unfold i14
 have hn:=x0k hg
 have hem:=u0d g hg hw hl
 have hle:y00 g.parts<2 ^ 20:=Nat.lt_of_lt_of_le (y0u (y0e (ps:=g.parts) fun k al hk _=>x01 y0l hk al) (Nat.two_pow_pos _) _) (Nat.pow_le_pow_right (by omega) hn.2)
 obtain⟨ps⟩:=g
 simp only[z0q] at hw
 simp only[x0d] at hl
 simp only[z0b] at hem
 simp only at hn hle
 have hln:=z0a (wL (wL w0)) ps
 have hvk:=fun m=>@r0u (y00 ps) ps m
 have hle2:(ps.length:Int)≤4294967296:=by omega
 simp only[u0j]
 generalize y00 ps=e at *
 have hbe:=x0x e
 have h0:List.replicate ps.length [C.ar true 3 1 []]=(List.replicate ps.length 0).map rF:=by rw[List.map_replicate,m1g]
 simp[z0b]
 refine z00 hem (by simp) ?_
 simp[hle2,h0]
 rw[← List.map_replicate]
 refine z04 (fun n σ=>∃m:Nat,m≤ps.length+1∧n=ps.length+1 - m∧σ=⟨[(1,.one (.pt 1 1 [] 0 0)),(3,.one (.vw 3 1 3 [] 0 (z0s e 20).length)),(4,.one (.vw 54 1 4 [] 0 ps.length)),(5,aI m)],[(1,⟨66,1,[[.ar false 0 1 (ps.map sISS)]]⟩),(3,⟨3,1,(z0s e 20).map rI⟩),(4,⟨54,1,(iter (z0h (fsP e) 0 ps) m (List.replicate ps.length 0)).map rF⟩)]⟩) (ps.length+1) ⟨0,by simp[iter]⟩ ?_
 rintro n σ ⟨m,hm,rfl,rfl⟩
 have wm:IntKind.i64.wrap ((m:Int)+1)=m+1:=z08 (by omega) (by omega)
 have hvm:=hvk m
 by_cases hmn:m≤ps.length
 case neg=>
  have:m=ps.length+1:=by omega
  subst this
  have c: ¬((ps.length:Int)+1≤ps.length):=by omega
  simp[c,hvm.1]
  rw[List.take_take,Nat.min_self,List.take_of_length_le (by simp[hvm.1])]
 have c:(m:Int)≤ps.length:=by omega
 have hpm:z0h (fsP e) 0 ps (iter (z0h (fsP e) 0 ps) m (List.replicate ps.length 0))=iter (z0h (fsP e) 0 ps) (m+1) (List.replicate ps.length 0):=rfl
 generalize hT:iter (z0h (fsP e) 0 ps) (m+1) (List.replicate ps.length 0)=T at *
 generalize iter (z0h (fsP e) 0 ps) m (List.replicate ps.length 0)=v0 at *
 simp[c]
 refine z04 (fun n σ=>∃(i:Nat) (v:List Nat),i≤ps.length∧n=ps.length - i∧LOk ps.length v∧z0h (fsP e) i (ps.drop i) v=T∧σ=⟨[(1,.one (.pt 1 1 [] 0 0)),(3,.one (.vw 3 1 3 [] 0 (z0s e 20).length)),(4,.one (.vw 54 1 4 [] 0 ps.length)),(5,aI m),(6,aI i)],[(1,⟨66,1,[[.ar false 0 1 (ps.map sISS)]]⟩),(3,⟨3,1,(z0s e 20).map rI⟩),(4,⟨54,1,v.map rF⟩)]⟩) (ps.length) ⟨0,v0,by omega,rfl,hvm,by simpa using hpm,by simp⟩ ?_
 rintro n σ ⟨i,v,hi,rfl,hv,ht,rfl⟩
 have wi:IntKind.i64.wrap ((i:Int)+1)=i+1:=z08 (by omega) (by omega)
 by_cases h:i<ps.length
 case neg=>
  rw[w0w h] at ht
  subst ht
  simp[h]
  exact⟨ps.length+1 - (m+1),by omega,m+1,by omega,rfl,by simp[hT,wm]⟩
 rw[w07 h] at ht
 have hli:=hl.2 i h
 have hwa:=z0x (wL (wL w0)) ps i h
 generalize hal:ps[i]=al at *
 have hla:=z0a (wL w0) al
 simp[h]
 generalize hT2:fsP e i al v=T2 at ht
 refine z04 (FsJ3 ps e m i al T2) (al.length) ⟨0,v,by omega,rfl,hv,by simpa using hT2,by simp⟩ ?_
 rintro n σ ⟨j,v,hj,rfl,hv,ht2,rfl⟩
 have wj:IntKind.i64.wrap ((j:Int)+1)=j+1:=z08 (by omega) (by omega)
 by_cases h2:j<al.length
 case neg=>
  rw[w1t h2] at ht2
  subst ht2
  simp[h,hal,h2,sISS]
  exact⟨ps.length - (i+1),by omega,i+1,by omega,rfl,v,hv,ht,by simp[wi]⟩
 rw[b0u h2] at ht2
 have hlj:=hli.2 j h2
 generalize hrw:al[j]=row at *
 have hil:i<v.length:=by rw[hv.1]; exact h
 have hpv:(i:Int)<v.length:=by omega
 have hrow:=o0y e v row hle (by rw[hv.1]; exact hn.2) (by rw[hv.1]; exact hv) hlj
 have hlt:=p0r (e:=e) hv row
 have hvo:=m0w (e:=e) (row:=row) h hv
 have hup:q04 e i v row=v.set i (v[i] ||| v0f e v row):=by rw[q04,y0p hil]
 rw[hup] at ht2 hvo
 have hset:=a1x v i (v[i] ||| v0f e v row)
 obtain⟨a,ha⟩: ∃a,v[i]'hil=a:=⟨_,rfl⟩
 rw[ha] at ht2 hvo hset
 generalize v0f e v row=b at *
 have hba:=s05 a
 have hbb:=s05 b
 have hsj:=t0u (z0s a 26) (z0s b 26) (by omega) (by omega)
 rw[p1z hlt] at hsj
 simp[h,hal,h2,hrw,sISS,sIS,hil,hpv,rF,ha,hv.1]
 have hsh:z0i (List.take ps.length (v.map rF))=v.map sF:=by rw[List.take_of_length_le (by simp[hv.1]),s1d]
 rw[hsh]
 simp only[rF] at hset
 first | refine z00 hrow (by simp) ?_ | refine z0c hrow (by simp) ?_ | refine z0z hrow (by simp) ?_ | refine z0e hrow rfl rfl (by simp) (by simp) ?_ | refine⟨_,by simp,hrow,?_⟩
 try simp[hil,hpv,rF,ha,hv.1,h]
 first | refine z00 hsj (by simp) ?_ | refine z0c hsj (by simp) ?_ | refine z0z hsj (by simp) ?_ | refine z0e hsj rfl rfl (by simp) (by simp) ?_ | refine⟨_,by simp,hsj,?_⟩
 try simp[hil,hpv,rF,ha,hv.1,h,hset, -List.map_set]
 exact⟨al.length - (j+1),by omega,j+1,_,by omega,rfl,hvo,ht2,by simp[wj,rF, -List.map_set]⟩
def c1s:K:=dc 0x10438138d2c90e8ac534c04ca852ca069ac530204108a0810422410070002000c41080480000433c20401c21c62461415691450810420c10001010c10fc0420016a8202040
def j1e:Nat×List RV:=(15,[.t 4])
theorem c_236:z01 PA 236 j1e c1s:=by unfold z01; kernel_rfl
theorem k0a (g:TGram) (row:List Int) (hg:y02 g=true) (hw:z0q g<2 ^ 31) (hl:x0d g) (hr:lL l0 row):z06 Tryz.prog 236 [.agg (z0b g),.one (.ar false 0 1 (row.map rI))] (.one (.ar true 3 1 ((z0s (p0d g row) 26).map rI))):=by
 refine Prun c_236 (by simp[j1e]) (by simp) ?_
 (conv in c1s=>reduce); unfold j1e
 have hn:=x0k hg
 have hgo:=u0o g hw
 rw[hg] at hgo
 have hfs:=m0q g hg hw hl
 have hem:=u0d g hg hw hl
 have hle:y00 g.parts<2 ^ 20:=Nat.lt_of_lt_of_le (y0u (y0e (ps:=g.parts) fun k al hk _=>x01 y0l hk al) (Nat.two_pow_pos _) _) (Nat.pow_le_pow_right (by omega) hn.2)
 have hvk:LOk g.parts.length (u0j g.parts):=r0u _
 have hrow:=o0y (y00 g.parts) (u0j g.parts) row hle (by rw[hvk.1]; exact hn.2) (by rw[hvk.1]; exact hvk) hr
 have hsh:=s1d (u0j g.parts)
 have hbe:=x0x (y00 g.parts)
 unfold p0d
 generalize y00 g.parts=e at *
 generalize u0j g.parts=v at *
 generalize v0f e v row=q at *
 obtain⟨ps⟩:=g
 simp only[z0b] at hgo hfs hem
 simp[z0b]
 first | refine z00 hgo (by simp) ?_ | refine z0c hgo (by simp) ?_ | refine z0z hgo (by simp) ?_ | refine z0e hgo rfl rfl (by simp) (by simp) ?_ | refine⟨_,by simp,hgo,?_⟩
 try simp
 first | refine z00 hfs (by simp) ?_ | refine z0c hfs (by simp) ?_ | refine z0z hfs (by simp) ?_ | refine z0e hfs rfl rfl (by simp) (by simp) ?_ | refine⟨_,by simp,hfs,?_⟩
 try simp
 first | refine z00 hem (by simp) ?_ | refine z0c hem (by simp) ?_ | refine z0z hem (by simp) ?_ | refine z0e hem rfl rfl (by simp) (by simp) ?_ | refine⟨_,by simp,hem,?_⟩
 try simp
 rw[hsh]
 first | refine z00 hrow (by simp) ?_ | refine z0c hrow (by simp) ?_ | refine z0z hrow (by simp) ?_ | refine z0e hrow rfl rfl (by simp) (by simp) ?_ | refine⟨_,by simp,hrow,?_⟩
 try simp
end
section
attribute [-simp] z03 z05 z02
def Cnt (m:Nat) (u:List Int) (S:Nat→Prop):Prop:=u.length=m∧(∀j (h:j<u.length),0≤u[j]∧u[j]≤1000)∧∀j (h:j<u.length),0<u[j]↔S j
theorem Cnt.congr {m:Nat} {u:List Int} {S T:Nat→Prop} (h:Cnt m u S) (e: ∀j,j<m→(T j↔S j)):Cnt m u T:=
 ⟨h.1,h.2.1,fun j hj=>by rw[e j (by rw[← h.1]; exact hj)]; exact h.2.2 j hj⟩
theorem i0k (m:Nat):Cnt m (List.replicate m 0) (fun _=>False):=
 ⟨List.length_replicate ..,fun j h=>by rw[List.getElem_replicate]; omega,fun j h=>by rw[List.getElem_replicate]; simp⟩
theorem w1g {m:Nat} {u:List Int} {S:Nat→Prop} (h:Cnt m u S) {k:Nat} {v:Int} {T:Nat→Prop} (hv:0≤v∧v≤1000) (hk:0<v↔T k) (hT: ∀j,j≠k→(T j↔S j)):Cnt m (u.set k v) T:=by
 obtain⟨h1,h2,h3⟩:=h
 refine⟨by rw[List.length_set]; exact h1,fun j hj=>?_,fun j hj=>?_⟩
 ·rw[List.getElem_set]
  split
  ·exact hv
  ·exact h2 j (by simpa using hj)
 ·rw[List.getElem_set]
  split
  ·rename_i e; subst e; exact hk
  ·rename_i e; rw[hT j (fun h=>e h.symm)]; exact h3 j (by simpa using hj)
theorem d0m {m:Nat} {u:List Int} {S:Nat→Prop} (h:Cnt m u S) {k:Nat} (hk:k<u.length) {d:Int} {Q:Prop} (hd:0≤d) (hq:0<d↔Q):Cnt m (u.set k (min (u[k]+d) 1000)) (fun j=>S j∨(j=k∧Q)):=by
 have h2:=h.2.1 k hk
 have h3:=h.2.2 k hk
 refine w1g h (by omega) ?_ fun j hj=>by simp[hj]
 constructor
 ·intro hp
  by_cases c:0<u[k]
  ·exact .inl (h3.1 c)
  ·exact .inr ⟨rfl,hq.1 (by omega)⟩
 ·rintro (hs | ⟨_,hs⟩)
  ·have:=h3.2 hs; omega
  ·have:=hq.2 hs; omega
theorem w1f {m i:Nat} (h:i<m):Cnt m ((List.replicate m 0).set i 1) (fun j=>j=i):=
 w1g (i0k m) (by omega) (by simp) fun j hj=>by simp[hj]
theorem Cnt.not {m:Nat} {u:List Int} {S:Nat→Prop} (h:Cnt m u S) {k:Nat} (hk:k<u.length) (e:u[k]=0): ¬S k:=fun hs=>by have:=(h.2.2 k hk).2 hs; omega
theorem Cnt.yes {m:Nat} {u:List Int} {S:Nat→Prop} (h:Cnt m u S) {k:Nat} (hk:k<u.length) (e:u[k]≠0):S k:=(h.2.2 k hk).1 (by have:=(h.2.1 k hk).1; omega)
abbrev WM:=List (List (Option (List Int)))
def wayC:Option (List Int)→List C
 | none=>[.ar true 3 1 []]
 | some v=>[.ar false 0 1 (v.map rI)]
def donC {α:Type} (o:Option α):List C:=[.bool o.isSome]
def wayR (r:List (Option (List Int))):List C:=[.ar true 54 1 (r.map wayC)]
def donR {α:Type} (r:List (Option α)):List C:=[.ar true 4 1 (r.map donC)]
def l7C (g:TGram) (w:List Int) (M:WM):List C:=[.ar false 0 1 (g.parts.map sISS),.ar false 0 1 (w.map rI),.ar true 80 1 (M.map wayR),.ar true 374 1 (M.map donR)]
structure WOk (g:TGram) (w:List Int) (M:WM):Prop where
 len:M.length=g.parts.length
 row: ∀k (h:k<M.length),M[k].length=w.length+1
 ok: ∀k i (h:k<M.length) (h2:i<M[k].length) v,M[k][i]=some v→Cnt (w.length+1) v (Drv g.parts w [100+(k:Int)] i)
theorem WOk.put {g:TGram} {w:List Int} {M:WM} (h:WOk g w M) {k i:Nat} (hk:k<M.length) {v:List Int} (hv:Cnt (w.length+1) v (Drv g.parts w [100+(k:Int)] i)):WOk g w (M.set k (M[k].set i (some v))):=by
 refine⟨by rw[List.length_set]; exact h.len,fun k' hk'=>?_,fun k' i' hk' hi' v' he=>?_⟩
 ·rw[List.getElem_set]
  split
  ·rw[List.length_set]; exact h.row k hk
  ·exact h.row k' (by simpa using hk')
 ·by_cases e:k=k'
  ·subst e
   simp only[List.getElem_set_self] at he hi'
   rw[List.getElem_set] at he
   split at he
   ·rename_i e2; subst e2
    simp only[Option.some.injEq] at he
    subst he; exact hv
   ·exact h.ok k i' hk (by simpa using hi') v' he
  ·simp only[List.getElem_set_ne e] at he hi'
   exact h.ok k' i' (by simpa using hk') hi' v' he
def n00 (n m:Nat):WM:=List.replicate n (List.replicate m none)
theorem u1l (g:TGram) (w:List Int):WOk g w (n00 g.parts.length (w.length+1)):=by
 refine⟨List.length_replicate ..,fun k h=>?_,fun k i h h2 v he=>?_⟩
 ·simp[n00]
 ·simp[n00] at he
def a11:K:=dc 0x1044014050020400b93c004bf0f38d04738100d14010100530130b2c000004804394b0b928010a2432480010881c118718d1800080401010c10fc041040
def i1o:Nat×List RV:=(17,[.t 4])
theorem c_299:z01 PA 299 i1o a11:=by unfold z01; kernel_rfl
theorem q0m (w:List Int) (x0 x2 x3:List (List C)) (i:Nat) (hw:w.length<2 ^ 20) (hi:i≤w.length):z06 Tryz.prog 299 [.one (.ps [.ar false 0 1 x0,.ar false 0 1 (w.map rI),.ar false 0 1 x2,.ar false 0 1 x3]),aI i] (.one (.ar true 3 1 (((List.replicate (w.length+1) 0).set i 1).map rI))):=by
 refine Prun c_299 (by simp[i1o]) (by simp) ?_
 (conv in a11=>reduce); unfold i1o
 have w1:IntKind.i64.wrap ((w.length:Int)+1)=w.length+1:=z08 (by omega) (by omega)
 have hb:(0:Int)≤(w.length:Int)+1:=by omega
 have hb2:(w.length:Int)+1≤4294967296:=by omega
 have hi2:i<w.length+1:=by omega
 have hi3:(i:Int)<(w.length:Int)+1:=by omega
 simp[w1,hb,hb2,hi2,hi3]
 rw[List.take_of_length_le (by simp),List.take_of_length_le (by simp)]
end
section
attribute [-simp] z03 z05 z02
def v08 (e:Nat) (v:List Nat):List C:=cU e :: x0p v
theorem e0g (e:Nat) (v:List Nat):(v08 e v).length=21:=by simp[v08]
theorem o01 (e:Nat) (v:List Nat):w0y (v08 e v)=true:=by simp[v08,w0y,C.sc]
theorem e0h (e:Nat) (v:List Nat):y04 (v08 e v)=v08 e v:=l0w (o01 e v)
theorem x10 (e:Nat) (v:List Nat):(v08 e v).all C.scal=true:=o08 (o01 e v)
theorem j0x (σ:St) (e:Nat) (v:List Nat):u0k σ (v08 e v)=some (false,v08 e v):=m0v (o01 e v)
theorem l0q {e:Nat} {v:List Nat} {k:Nat} (h:k<20):((v08 e v).drop (1+k)).take 1=[cU (v.getD k 0)]:=by
 rw[v08,Nat.add_comm,List.drop_succ_cons]
 exact s0d h
theorem t1n {e:Nat} {v:List Nat} {k m:Nat} (h:k<20) (hv:k<v.length):(v08 e v).take (1+k) ++ cU m :: (v08 e v).drop (1+k+1)=v08 e (v.set k m):=by
 rw[v08,Nat.add_comm 1 k,List.drop_succ_cons,List.take_succ_cons,List.cons_append,e0f h hv]; rfl
theorem orW {a b:Nat} (ha:a<2 ^ 26) (hb:b<2 ^ 26):IntKind.u32.wrap ((BitVec.ofInt IntKind.u32.bits (a:Int) ||| BitVec.ofInt IntKind.u32.bits (b:Int)).toNat:Int)=((a ||| b:Nat):Int):=by
 simp only[BitVec.ofInt_natCast]
 exact orU (by omega) (by omega)
theorem r1h {v:List Nat} {k:Nat} (h: ¬k<v.length):v.getD k 0=0:=by
 rw[List.getD_eq_getElem?_getD,List.getElem?_eq_none (by omega)]; rfl
theorem orXk {f k:Nat} (hf:f<2 ^ 26) (hk:k<26):IntKind.u32.wrap ((BitVec.ofInt IntKind.u32.bits (f:Int) ||| BitVec.ofInt IntKind.u32.bits (IntKind.u32.wrap (2 ^ min (IntKind.u64.wrap (k:Int)).toNat IntKind.u32.bits))).toNat:Int)=((f ||| 2 ^ k:Nat):Int):=by
 have h1:IntKind.u64.wrap (k:Int)=k:=v0z (by omega) (by omega)
 have h2:=shlU (x:=(k:Int)) (by omega) (by omega)
 rw[Int.one_mul] at h2
 rw[h1,h2,Int.toNat_natCast]
 have:=orU (a:=f) (b:=2 ^ k) (Nat.lt_of_lt_of_le hf (by omega)) (Nat.pow_lt_pow_right (by omega) (by omega))
 rw[← this]
 simp only[BitVec.ofInt_natCast]
def k_88:K:=dc 0x104c4126814008100ac002280b9280102043104bc11e814008102e086a2d245a2ca82929144a20ab9ac1103a07002a29001081a280060289cd9c000804016606695e1849640010a48630545638811a27cd860ab98011201c07c001e14028100310474174500204058259c05c6fb64a22be5a4046d9f8701a67e65801882ae573445c70070401045415544461144c2080f081134834521c04450060403823900503c136914f1c00c10021401cd04d30004230a2011c30400450001832c200b24a344041000dc504010a248140147005280e402480c80400c1000140080f0104100400203c041040
def r_88:Nat×List RV:=(50,[.t 4])
theorem c_88:z01 PA 88 r_88 k_88:=by unfold z01; kernel_rfl
theorem m0i (e:Nat) (v:List Nat) (row:List Int) (he:e<2 ^ v.length) (hn:v.length≤20) (hv:LOk v.length v) (hr:row.length<2 ^ 40):z06 Tryz.prog 88 [.one (.ps (v08 e v)),.one (.ar false 0 1 (row.map rI))] (aU (v0f e v row)):=by
 refine Prun c_88 (by simp[r_88]) (by simp) ?_
 (conv in k_88=>reduce); unfold r_88
 have he20:e<2 ^ 20:=Nat.lt_of_lt_of_le he (Nat.pow_le_pow_right (by omega) hn)
 generalize hT:v0f e v row=T
 simp
 refine z04 (fun n σ=>∃i acc:Nat,i≤row.length∧n=row.length - i∧acc<2 ^ 26∧acc ||| v0f e v (row.drop i)=T∧σ=⟨[(0,.one (.ps (v08 e v))),(5,aU acc),(8,.one (.ar false 0 1 (row.map rI))),(9,aI row.length),(10,aI i)],[]⟩) (row.length) ⟨0,0,by omega,by omega,by omega,by rw[List.drop_zero,Nat.zero_or]; exact hT,by simp⟩ ?_
 rintro n σ ⟨i,acc,hi,rfl,hacc,ht,rfl⟩
 by_cases h:i<row.length
 case neg=>
  rw[f0y h,Nat.or_zero] at ht
  subst ht
  simp[h]
 have wi:IntKind.i64.wrap ((i:Int)+1)=i+1:=z08 (by omega) (by omega)
 have hdr:=@j0g e i v row h
 obtain⟨x,hx⟩: ∃x,row[i]'h=x:=⟨_,rfl⟩
 rw[hx] at hdr
 rw[hdr] at ht
 clear hdr
 have hin:=r0r x
 simp[h,hx]
 first | refine z00 hin (by simp) ?_ | refine z0c hin (by simp) ?_ | refine z0z hin (by simp) ?_ | refine z0e hin rfl rfl (by simp) (by simp) ?_ | refine⟨_,by simp,hin,?_⟩
 try simp
 cases c1:inr x 0 25 with
 | true=>
   rw[c1,if_pos rfl] at ht
   rw[z0l] at c1
   obtain⟨k,hk⟩: ∃k:Nat,x=k:=⟨x.toNat,by omega⟩
   subst hk
   rw[Int.toNat_natCast] at ht
   have hor:=orXk hacc (show k<26 by omega)
   rw[ht] at hor
   have n64: ¬IntKind.u64.wrap (k:Int)<0:=by rw[v0z (by omega) (by omega)]; omega
   simp[x0r,n64, -BitVec.ofInt_natCast,hor]
 | false=>
 rw[c1] at ht
 simp only[Bool.false_eq_true,if_false] at ht
 by_cases c2:x<100
 ·rw[if_neg (by omega),Nat.or_zero] at ht
  subst ht
  simp[c2]
 by_cases c3:120≤x
 ·rw[if_neg (by unfold prt; omega),Nat.or_zero] at ht
  subst ht
  simp[c2,c3]
 have hp20:prt x<20:=by unfold prt; omega
 have hp20':(prt x:Int)<20:=by omega
 have hp21:1+prt x+1≤21:=by omega
 have wx:IntKind.i64.wrap (x - 100)=((prt x:Nat):Int):=by rw[z08 (by omega) (by omega)]; unfold prt; omega
 have hg:=l0q (e:=e) (v:=v) hp20
 have hvx:=hv.2 (prt x)
 have hh:=g0x e (prt x) (by omega) (by omega) (by omega)
 rw[Int.toNat_natCast] at hh
 have hlen:=e0g e v
 have ht2:(acc ||| v.getD (prt x) 0) ||| (if e.testBit (prt x)=true then v0f e v (row.drop (i+1)) else 0)=T:=by
  by_cases c4:prt x<v.length
  ·rw[if_pos ⟨by omega,c4⟩,← Nat.or_assoc] at ht; exact ht
  ·rw[if_neg (by omega),Nat.or_zero] at ht
   have e1:e.testBit (prt x)=false:=Nat.testBit_lt_two_pow (Nat.lt_of_lt_of_le he (Nat.pow_le_pow_right (by omega) (by omega)))
   rw[r1h c4,e1,Nat.or_zero,ht]
   simp
 obtain⟨b,hb⟩: ∃b,v.getD (prt x) 0=b:=⟨_,rfl⟩
 rw[hb] at hg hvx ht2
 have hor:=orW hacc hvx
 have hob:acc ||| b<2 ^ 26:=Nat.or_lt_two_pow hacc hvx
 clear ht hb
 have hhd:v08 e v=cU e :: x0p v:=rfl
 generalize v08 e v=R at *
 have hp22:prt x≤20:=by omega
 rw[Nat.add_comm] at hg
 have hp23:1≤20 - prt x:=by omega
 have ht1:R.take 1=[cU e]:=by rw[hhd]; rfl
 simp[c2,c3,wx,hp20,hp20',hlen,hp21,hp22,hp23,hg, -BitVec.ofInt_natCast,hor,ht1]
 first | refine z00 hh (by simp) ?_ | refine z0c hh (by simp) ?_ | refine z0z hh (by simp) ?_ | refine z0e hh rfl rfl (by simp) (by simp) ?_ | refine⟨_,by simp,hh,?_⟩
 try simp
 cases c5:e.testBit (prt x) with
 | false=>
   rw[c5] at ht2
   simp only[Bool.false_eq_true,if_false,Nat.or_zero] at ht2
   subst ht2
   simp
 | true=>
   rw[c5,if_pos rfl] at ht2
   simp
   exact⟨row.length - (i+1),by omega,i+1,by omega,rfl,acc ||| b,hob,ht2,by simp[wi]⟩
def FoJ1 (tg tm:Nat) (ps:List (List (List Int))) (e:Nat) (n:Nat) (σ:St):Prop:=∃(m:Nat) (more:Bool),m≤ps.length+1∧n=ps.length+2 - m∧(more=true→m≤ps.length)∧(more=false→iter (z0h (fsP e) 0 ps) m (List.replicate ps.length 0)=iter (z0h (fsP e) 0 ps) (ps.length+1) (List.replicate ps.length 0))∧σ=⟨[(1,.one (.pt 1 1 [] 0 0)),(3,.one (.pt 21 13 [] 0 0)),(4,aB more)],[(1,⟨tg,1,[[.ar false 0 1 (ps.map sISS)]]⟩),(13,⟨tm,21,[v08 e (iter (z0h (fsP e) 0 ps) m (List.replicate ps.length 0))]⟩)]⟩
def FoJ2 (tg tm:Nat) (ps:List (List (List Int))) (e:Nat) (v0 T:List Nat) (n:Nat) (σ:St):Prop:=∃(i:Nat) (v:List Nat),i≤ps.length∧n=ps.length - i∧LOk ps.length v∧vsub v0 v∧z0h (fsP e) i (ps.drop i) v=T∧σ=⟨[(1,.one (.pt 1 1 [] 0 0)),(3,.one (.pt 21 13 [] 0 0)),(4,aB (neqV v v0)),(16,.one (.ar false 0 1 (ps.map sISS))),(17,aI ps.length),(18,aI i)],[(1,⟨tg,1,[[.ar false 0 1 (ps.map sISS)]]⟩),(13,⟨tm,21,[v08 e v]⟩)]⟩
def FoJ3 (tg tm:Nat) (ps:List (List (List Int))) (e i a0:Nat) (b1:Bool) (al:List (List Int)) (T2:List Nat) (n:Nat) (σ:St):Prop:=∃(j:Nat) (v:List Nat),j≤al.length∧n=al.length - j∧LOk ps.length v∧fsP e i (al.drop j) v=T2∧σ=⟨[(1,.one (.pt 1 1 [] 0 0)),(3,.one (.pt 21 13 [] 0 0)),(4,aB b1),(5,aI i),(7,aU a0),(16,.one (.ar false 0 1 (ps.map sISS))),(17,aI ps.length),(18,aI i),(29,.one (.ar false 0 1 (al.map sIS))),(30,aI al.length),(31,aI j)],[(1,⟨tg,1,[[.ar false 0 1 (ps.map sISS)]]⟩),(13,⟨tm,21,[v08 e v]⟩)]⟩
def k_87:K:=dc 0x102178055a03002040484e005280b94801020440f8053a02e3bc8a0780383044a82a8f87011a0aa3edc00424282a8fb4d815153e82a8fb50463a82a8fb334da0aa3e1403282a8f8300ba0aa3e2a8c402681003017f0008a02e5f004081b2f0012fc1e892e054546a2d0461688cd128ae81840e8aa90b0a050a82400680c00289c00429e49815159a50469633641408c300e3402098818a10010a17dd0470c10051401060e008081e7cd1010400373471851030487de7524501c510304b1c415f03901e74374600304000770171b00109b61a05455a6411995cd6050170c01c10065811540565400425524011d44801410031400860d30804d148d1010400373440c11524501030461c215203901140340f00108f04018404013a0410400450060ce08e1000410000373440c11440c10c700513b04104000334134c57b9acabf17f20c2c10010020000800020000800020000800020000800020000800020000800020000800020000800020000800020000800020150142ca063a45281041085040084f0104007b9aca4217f202040
def r_87:Nat×List RV:=(62,[.t 2])
theorem c_87:z01 PE 87 r_87 k_87:=by unfold z01; kernel_rfl
set_option maxRecDepth 200000 in
theorem y12 (g:TGram) (hg:y02 g=true) (hw:z0q g<2 ^ 31) (hl:x0d g):z06 Tryz.prog 87 [.agg (z0b g)] (.one (.op 191 21 (v08 (y00 g.parts) (u0j g.parts)))):=by
 refine b07 c_87 (by simp[r_87]) (by simp) ?_
 (conv in k_87=>reduce); unfold r_87
 have hn:=x0k hg
 have hem:=g0t g hg hw
 have hle:y00 g.parts<2 ^ g.parts.length:=y0u (y0e (ps:=g.parts) fun k al hk _=>x01 y0l hk al) (Nat.two_pow_pos _) _
 obtain⟨ps⟩:=g
 simp only[z0q] at hw
 simp only[x0d] at hl
 simp only[z0b] at hem
 simp only at hn hle
 have hln:=z0a (wL (wL w0)) ps
 have hvk:=fun m=>@r0u (y00 ps) ps m
 have hrest:=@d0p (y00 ps) ps
 simp only[u0j]
 generalize y00 ps=e at *
 have hst: ∀m,z0h (fsP e) 0 ps (iter (z0h (fsP e) 0 ps) m (List.replicate ps.length 0))=iter (z0h (fsP e) 0 ps) m (List.replicate ps.length 0)→iter (z0h (fsP e) 0 ps) m (List.replicate ps.length 0)=iter (z0h (fsP e) 0 ps) (ps.length+1) (List.replicate ps.length 0):=fun m h=>c0l hrest h
 have hz:v08 e (List.replicate ps.length 0)=cU e :: List.replicate 20 (cU 0):=by rw[v08,r0w]
 simp[z0b]
 refine z00 hem (by simp) ?_
 generalize hg1:(1000000000+66:Nat)=tg
 generalize hm1:(1000000000+191:Nat)=tm
 simp only[Nat.reduceAdd] at hg1 hm1
 rw[hg1,hm1]
 have h9:1000000000≤tm:=by omega
 have hm:tm - 1000000000=191:=by omega
 simp
 refine z04 (FoJ1 tg tm ps e) (ps.length+2) ⟨0,true,by omega,rfl,fun _=>by omega,fun h=>by (cases h),by simp[iter]; rw[v08,r0w]; rfl⟩ ?_
 clear hg1 hm1 hz
 rintro n σ ⟨m,more,hm',rfl,hmt,hmf,rfl⟩
 cases more with
 | false=>
   have:=hmf rfl
   rw[this]
   generalize iter (z0h (fsP e) 0 ps) (ps.length+1) (List.replicate ps.length 0)=vf
   simp[h9,hm,v08]
 | true=>
 have hmn:=hmt rfl
 clear hmt hmf
 have hvm:=hvk m
 have hvm1:=hvk (m+1)
 have hpm:z0h (fsP e) 0 ps (iter (z0h (fsP e) 0 ps) m (List.replicate ps.length 0))=iter (z0h (fsP e) 0 ps) (m+1) (List.replicate ps.length 0):=rfl
 have hstm:=hst m
 have hne:iter (z0h (fsP e) 0 ps) (m+1) (List.replicate ps.length 0)≠iter (z0h (fsP e) 0 ps) m (List.replicate ps.length 0)→m+1≤ps.length:=fun h=>by
  rcases Nat.lt_or_ge m ps.length with h1 | h1
  ·omega
  ·have:m=ps.length:=by omega
   subst this; exact absurd hrest h
 generalize hT:iter (z0h (fsP e) 0 ps) (m+1) (List.replicate ps.length 0)=T at *
 generalize iter (z0h (fsP e) 0 ps) m (List.replicate ps.length 0)=v0 at *
 simp
 refine z04 (FoJ2 tg tm ps e v0 T) (ps.length) ⟨0,v0,by omega,rfl,hvm,u0c _,by simpa using hpm,by simp[f0u]⟩ ?_
 rintro n σ ⟨i,v,hi,rfl,hv,hsv,ht,rfl⟩
 have wi:IntKind.i64.wrap ((i:Int)+1)=i+1:=z08 (by omega) (by omega)
 by_cases h:i<ps.length
 case neg=>
  rw[w0w h] at ht
  subst ht
  simp[h]
  refine⟨ps.length+2 - (m+1),by omega,m+1,neqV v v0,by omega,rfl,fun hb=>hne (o15 hb),fun hb=>?_,by rw[hT]⟩
  have hvv:=o14 hb
  subst hvv
  rw[hT]
  exact hstm hpm
 rw[w07 h] at ht
 have hli:=hl.2 i h
 have hwa:=z0x (wL (wL w0)) ps i h
 generalize hal:ps[i]=al at *
 have hla:=z0a (wL w0) al
 have hmore:=y1l (e:=e) (al:=al) h hvm hv hsv
 have hvsP:=(m12 (e:=e) (al:=al) h hv).2
 have hsv2:=v0y hsv hvsP
 have hi20:(i:Int)<20:=by omega
 have hi20':i<20:=by omega
 have hi20'':1+i+1≤21:=by omega
 have hil:i<v.length:=by rw[hv.1]; exact h
 have hg1:=l0q (e:=e) (v:=v) hi20'
 rw[y0p hil] at hg1 hmore
 have hl21:=fun v=>e0g e v
 simp[h,hal,sISS,hi20,hi20',hi20'',hg1,hl21]
 generalize hT2:fsP e i al v=T2 at *
 generalize neqV v v0=b1 at *
 obtain⟨a0,ha0⟩: ∃a0,v[i]'hil=a0:=⟨_,rfl⟩
 rw[ha0] at hmore
 simp only[ha0]
 refine z04 (FoJ3 tg tm ps e i a0 b1 al T2) (al.length) ⟨0,v,by omega,rfl,hv,by simpa using hT2,by simp⟩ ?_
 clear hil hg1 hvsP hsv ha0
 rintro n σ ⟨j,v,hj,rfl,hv,ht2,rfl⟩
 have wj:IntKind.i64.wrap ((j:Int)+1)=j+1:=z08 (by omega) (by omega)
 have hil:i<v.length:=by rw[hv.1]; exact h
 have hg1:=l0q (e:=e) (v:=v) hi20'
 rw[y0p hil] at hg1
 by_cases h2:j<al.length
 case neg=>
  rw[w1t h2] at ht2
  subst ht2
  rw[y0p hil] at hmore
  generalize hvi:v[i]=a at *
  cases b1 with
  | true=>
    simp at hmore
    simp[h2]
    exact⟨ps.length - (i+1),by omega,i+1,v,by omega,rfl,hv,hsv2,ht,by simp[wi,← hmore]⟩
  | false=>
    have hmore':decide (¬(a:Int)=a0)=neqV v v0:=by
     rw[← hmore]; simp; omega
    simp[h2,hi20,hi20',hi20'',hg1,hl21]
    exact⟨ps.length - (i+1),by omega,i+1,v,by omega,rfl,hv,hsv2,ht,by simp[wi,← hmore']⟩
 rw[b0u h2] at ht2
 have hlj:=hli.2 j h2
 generalize hrw:al[j]=row at *
 have hof:=m0i e v row (by rw[hv.1]; exact hle) (by rw[hv.1]; exact hn.2) (by rw[hv.1]; exact hv) (by have:=z0x (wL w0) al j h2; rw[hrw,v09] at this; omega)
 have hlt:=p0r (e:=e) hv row
 have hvo:=m0w (e:=e) (row:=row) h hv
 have hup:q04 e i v row=v.set i (v[i] ||| v0f e v row):=by rw[q04,y0p hil]
 rw[hup] at ht2 hvo
 have hset:=t1n (e:=e) (v:=v) (m:=v[i] ||| v0f e v row) hi20' hil
 have hvi:=hv.2 i
 rw[y0p hil] at hvi
 obtain⟨a,ha⟩: ∃a,v[i]'hil=a:=⟨_,rfl⟩
 rw[ha] at ht2 hvo hset hvi hg1
 have hsh:=e0h e v
 have hsc:=x10 e v
 have hld:=fun σ=>j0x σ e v
 generalize v0f e v row=b at *
 have hor:=orW hvi hlt
 have hrf:x0f (fun _ _=>true) (v08 e v)=false:=n0t (o01 e v)
 simp[h2,hrw,sIS,hi20,hi20',hi20'',hg1,hl21,hsh,hld,hrf]
 first | refine z00 hof (by simp) ?_ | refine z0c hof (by simp) ?_ | refine z0z hof (by simp) ?_ | refine z0e hof rfl rfl (by simp) (by simp) ?_ | refine⟨_,by simp,hof,?_⟩
 try simp[hi20,hi20',hi20'',hl21,hg1, -BitVec.ofInt_natCast,hor,hset,hsc]
 exact⟨al.length - (j+1),by omega,j+1,_,by omega,rfl,hvo,ht2,by simp[wj]⟩
end
end Go.Am
