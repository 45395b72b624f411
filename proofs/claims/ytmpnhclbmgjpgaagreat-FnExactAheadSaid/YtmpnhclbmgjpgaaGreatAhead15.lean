/- Text 15 for FnExactAhead. -/
import Derived.Test.YtmpnhclbmgjpgaaGreatAhead14
set_option linter.unusedVariables false
set_option linter.unusedSimpArgs false
namespace Go.Am
open Go.Proofs
set_option maxHeartbeats 4000000
set_option maxRecDepth 100000
attribute [-simp] BitVec.toNat_or BitVec.toNat_and BitVec.toNat_ofInt
section
attribute [-simp] z03 z05 z02
theorem x0x (f:Nat):(z0s f 20).length≤20:=by rw[p09]; exact l04 f 20
theorem u0w {f:Nat} {x:Int} (hf:f<2 ^ 20) (hx:0≤x):decide (x∈z0s f 20)=f.testBit x.toNat:=by
 rw[Bool.eq_iff_iff,decide_eq_true_iff,r05]
 constructor
 ·exact fun h=>h.2.2
 ·intro h
  have:=b0j hf h
  exact⟨hx,by omega,h⟩
def d1j:K:=dc 0x41160561400810063c13c2e4e0043860030455415544029a91544c00424d24411d21804410101401c104500018334234c28d10c2c32c100a1801010000371850441850431c01460390410400052412481c02010ce2000070000433c40401010c10fc041040
def k17:Nat×List RV:=(23,[.t 4])
theorem c_181:z01 PA 181 k17 d1j:=by unfold z01; kernel_rfl
theorem t0u (xs ys:List Int) (hx:xs.length<2 ^ 30) (hy:ys.length<2 ^ 30):z06 Tryz.prog 181 [.one (.ar false 0 1 (xs.map rI)),.one (.ar false 0 1 (ys.map rI))] (.one (.ar true 3 1 ((ys.foldl v0h xs).map rI))):=by
 refine Prun c_181 (by simp[k17]) (by simp) ?_
 (conv in d1j=>reduce); unfold k17
 have hbN:xs.length≤4294967296:=by omega
 generalize hT:ys.foldl v0h xs=T
 simp[hbN]
 refine z04 (fun n σ=>∃(i:Nat) (zs:List Int),i≤ys.length∧n=ys.length - i∧zs.length≤xs.length+i∧(ys.drop i).foldl v0h zs=T∧σ=⟨[(1,.one (.ar false 0 1 (ys.map rI))),(5,.one (.vw 3 1 5 [] 0 zs.length)),(6,aI i)],[(5,⟨3,1,zs.map rI⟩)]⟩) (ys.length) ⟨0,xs,by omega,rfl,by omega,by simpa using hT,by simp⟩ ?_
 rintro n σ ⟨i,zs,hi,rfl,hz,ht,rfl⟩
 by_cases h:i<ys.length
 case neg=>
  rw[t01 h] at ht
  subst ht
  simp[h]
 rw[v0o h] at ht
 have wi:IntKind.i64.wrap ((i:Int)+1)=i+1:=z08 (by omega) (by omega)
 have hl:=j0z zs ys[i]
 simp[h]
 refine z00 (w0m zs ys[i] (by omega)) (by simp) ?_
 simp
 exact⟨ys.length - (i+1),by omega,i+1,by omega,rfl,_,by omega,ht,by simp[wi]⟩
def c1k:K:=dc 0x104ec10410052c12c2e4a004285003043104e8104101a09a67b44a609651f974825e915847e82ae560445d1f9500109647e513047551f8501447e0004d1f8101247e45001082ae4f3443ce00108e34c04734500c0003c10011400060c90892063442070c7000185004040000dc50401050400c7005140e4104100013a041040
def j16:Nat×List RV:=(27,[.t 4])
theorem c_227:z01 PA 227 j16 c1k:=by unfold z01; kernel_rfl
theorem f05 (row:List Int) (f:Nat) (hf:f<2 ^ 20) (hr:lL l0 row):z06 Tryz.prog 227 [.one (.ar false 0 1 (row.map rI)),.one (.ar false 0 1 ((z0s f 20).map rI))] (aB (y0l f row)):=by
 refine Prun c_227 (by simp[j16]) (by simp) ?_
 (conv in c1k=>reduce); unfold j16
 have hr1:=hr.1
 have hbl:=x0x f
 generalize hT:y0l f row=T
 have hT0:y0l f (row.drop 0)=T:=by simpa using hT
 clear hT
 simp
 refine z04 (fun n σ=>∃i:Nat,i≤row.length∧n=row.length - i∧y0l f (row.drop i)=T∧σ=⟨[(0,.one (.ar false 0 1 (row.map rI))),(1,.one (.ar false 0 1 ((z0s f 20).map rI))),(5,aI i)],[]⟩) (row.length) ⟨0,by simpa using hT0⟩ ?_
 rintro n σ ⟨i,hi,rfl,ht,rfl⟩
 by_cases h:i<row.length
 case neg=>
  unfold y0l at ht
  rw[x0w h] at ht
  subst ht
  simp[h]
 have hri:=hr.2 i h
 unfold y0l at ht
 rw[x05 h] at ht
 have wi:IntKind.i64.wrap ((i:Int)+1)=i+1:=z08 (by omega) (by omega)
 generalize hx:row[i]=x at *
 simp only[l0] at hri
 simp[h,hx]
 by_cases c1:x<100
 ·have: ¬100≤x:=by omega
  simp[this] at ht
  simp[c1,ht]
 have c1':100≤x:=by omega
 have wx:IntKind.i64.wrap (x - 100)=x - 100:=z08 (by omega) (by omega)
 have hm:=u0w (x:=x - 100) hf (by omega)
 have hh:=x0j (z0s f 20) (x - 100) (by omega)
 rw[hm] at hh
 simp[c1,wx,hx,h]
 refine z00 hh (by simp) ?_
 cases c3:f.testBit (x - 100).toNat with
 | false=>simp[c1',prt,c3] at ht; simp[ht]
 | true=>
   simp[c1',prt,c3] at ht
   simp
   exact⟨row.length - (i+1),by omega,i+1,by omega,rfl,by simpa [y0l,prt] using ht,by rw[wi]; simp⟩
def d1i:K:=dc 0x40ad045a0300204010e04e0b934010d1000c11550550b95001141400c119f05f0b978011e1800c10c3b01128aea0a6a450e81400a80c0101a42068a270bba850280c09e60010a69640479460248c00428e28411e21408600010a004018a04014500418374275c58d11c6c36da00109a6580476450185c00425c1006586008040000dc61440c11861440c1147105180e410410031400860d309348f3444910d14000424010063c5005040000dc51030451440c1107085140e410410011400060cc08c2c83842ca0ca240042241006204005040000dc40c11040c10c7005100e410410000c70470000433c20400810c10fc0410016a8202040
def k16:Nat×List RV:=(46,[.t 2])
theorem c_180:z01 PA 180 k16 d1i:=by unfold z01; kernel_rfl
set_option maxRecDepth 200000 in
theorem u0d (g:TGram) (hg:y02 g=true) (hw:z0q g<2 ^ 31) (hl:x0d g):z06 Tryz.prog 180 [.agg (z0b g)] (.one (.ar true 3 1 ((z0s (y00 g.parts) 20).map rI))):=by
 refine Prun c_180 (by simp[k16]) (by simp) ?_
 (conv in d1i=>reduce); unfold k16
 have hn:=x0k hg
 obtain⟨ps⟩:=g
 simp only[z0q] at hw
 simp only[x0d] at hl
 simp only at hn
 have hln:=z0a (wL (wL w0)) ps
 have hgr:s0t (z0h (setP y0l) 0 ps) ps.length:=y0e fun k al hk _=>x01 _ hk al
 have hlt:=y0u hgr (Nat.two_pow_pos _:0<2 ^ ps.length)
 have hf20: ∀{f:Nat},f<2 ^ ps.length→f<2 ^ 20:=fun h=>Nat.lt_of_lt_of_le h (Nat.pow_le_pow_right (by omega) hn.2)
 simp[z0b]
 refine z04 (fun n σ=>∃m:Nat,m≤ps.length+1∧n=ps.length+1 - m∧σ=⟨[(1,.one (.pt 1 1 [] 0 0)),(3,.one (.vw 3 1 3 [] 0 (z0s (iter (z0h (setP y0l) 0 ps) m 0) 20).length)),(4,aI m)],[(1,⟨66,1,[[.ar false 0 1 (ps.map sISS)]]⟩),(3,⟨3,1,(z0s (iter (z0h (setP y0l) 0 ps) m 0) 20).map rI⟩)]⟩) (ps.length+1) ⟨0,by simp[iter,z0s]⟩ ?_
 rintro n σ ⟨m,hm,rfl,rfl⟩
 have wm:IntKind.i64.wrap ((m:Int)+1)=m+1:=z08 (by omega) (by omega)
 by_cases hmn:m≤ps.length
 case neg=>
  have:m=ps.length+1:=by omega
  subst this
  have c: ¬((ps.length:Int)+1≤ps.length):=by omega
  simp[c,y00]
 have c:(m:Int)≤ps.length:=by omega
 have hfm:=hlt m
 have hpm:z0h (setP y0l) 0 ps (iter (z0h (setP y0l) 0 ps) m 0)=iter (z0h (setP y0l) 0 ps) (m+1) 0:=rfl
 generalize hT:iter (z0h (setP y0l) 0 ps) (m+1) 0=T at *
 generalize iter (z0h (setP y0l) 0 ps) m 0=f0 at *
 simp[c]
 refine z04 (fun n σ=>∃(i f:Nat),i≤ps.length∧n=ps.length - i∧f<2 ^ ps.length∧z0h (setP y0l) i (ps.drop i) f=T∧σ=⟨[(1,.one (.pt 1 1 [] 0 0)),(3,.one (.vw 3 1 3 [] 0 (z0s f 20).length)),(4,aI m),(5,aI i)],[(1,⟨66,1,[[.ar false 0 1 (ps.map sISS)]]⟩),(3,⟨3,1,(z0s f 20).map rI⟩)]⟩) (ps.length) ⟨0,f0,by omega,rfl,hfm,by simpa using hpm,by simp⟩ ?_
 rintro n σ ⟨i,f,hi,rfl,hf,ht,rfl⟩
 have wi:IntKind.i64.wrap ((i:Int)+1)=i+1:=z08 (by omega) (by omega)
 by_cases h:i<ps.length
 case neg=>
  rw[w0w h] at ht
  subst ht
  simp[h]
  exact⟨ps.length+1 - (m+1),by omega,m+1,by omega,rfl,by simp[hT,wm]⟩
 rw[w07 h] at ht
 have hli:=hl.2 i h
 have hwa:=z0x (wL (wL w0)) ps i h
 generalize hal:ps[i]=al at *
 have hla:=z0a (wL w0) al
 simp[h]
 generalize hT2:setP y0l i al f=T2 at ht
 refine z04 (fun n σ=>∃(j f:Nat),j≤al.length∧n=al.length - j∧f<2 ^ ps.length∧setP y0l i (al.drop j) f=T2∧σ=⟨[(1,.one (.pt 1 1 [] 0 0)),(3,.one (.vw 3 1 3 [] 0 (z0s f 20).length)),(4,aI m),(5,aI i),(6,aI j)],[(1,⟨66,1,[[.ar false 0 1 (ps.map sISS)]]⟩),(3,⟨3,1,(z0s f 20).map rI⟩)]⟩) (al.length) ⟨0,f,by omega,rfl,hf,by simpa using hT2,by simp⟩ ?_
 rintro n σ ⟨j,f,hj,rfl,hf,ht2,rfl⟩
 have wj:IntKind.i64.wrap ((j:Int)+1)=j+1:=z08 (by omega) (by omega)
 by_cases h2:j<al.length
 case neg=>
  rw[n0w h2] at ht2
  subst ht2
  simp[h,hal,h2,sISS]
  exact⟨ps.length - (i+1),by omega,i+1,by omega,rfl,f,hf,ht,by simp[wi]⟩
 rw[o03 h2] at ht2
 have hlj:=hli.2 j h2
 generalize hrw:al[j]=row at *
 simp[h,hal,h2,hrw,sISS,sIS]
 refine z00 (f05 row f (hf20 hf) hlj) (by simp) ?_
 have hbl:=x0x f
 cases c2:y0l f row with
 | false=>
   rw[c2] at ht2
   simp
   exact⟨al.length - (j+1),by omega,j+1,by omega,rfl,f,hf,by simpa using ht2,by simp[wj]⟩
 | true=>
   rw[c2] at ht2
   have hsa:=w0m (z0s f 20) i (by omega)
   rw[w0j (by omega:i<20)] at hsa
   simp
   refine z00 hsa (by simp) ?_
   simp
   exact⟨al.length - (j+1),by omega,j+1,by omega,rfl,f ||| 2 ^ i,q08 hf h,by simpa using ht2,by simp[wj]⟩
end
section
attribute [-simp] z03 z05 z02
def e1a:K:=dc 0x105ec11180585c12ea157580042586046141003105e811028a8043f010810150955000425060c60810003530130b93401020524460862aa4112010820814080022fc2010c10c00000828a84903c10823cd2c21c404004500018338200e30d344041000dc604334c2c6107005340e4030b0cb0400c10002860042fc1800428a80430a2a010c1a28043104eaa48a2410010010a2a010c28a8043068a010c401424204108404017a0440a2a010fc0420016a8203040
def m1y:Nat×List RV:=(25,[.t 4,.t 5])
theorem c_124:z01 PA 124 m1y e1a:=by unfold z01; kernel_rfl
theorem w1c {ps:w03} {cs:List TConf} (i:Nat) (h:i<cs.length) {S W:List TConf} {m:Bool} (hC:Clo ps (cs.take i) [] S W m):Clo ps (cs.take (i+1)) [cs[i]] S W m:=by
 rw[List.take_succ_eq_append_getElem h]
 rcases hC with⟨h1,h2⟩ | ⟨h1,h2⟩
 ·exact .inl ⟨h1,h2.next cs[i]⟩
 ·exact .inr ⟨h1,h2.mono fun x hx=>List.mem_append_left _ hx⟩
noncomputable def w1b (ps:w03) (cs:List TConf):A:=match q0j ps cs with
 | some S=> .tup [(false,[.ar true 74 2 (S.map u0t)]),(false,[.bool true])]
 | none=> .tup [(false,[.ar true 74 2 []]),(false,[.bool false])]
def o1o (ps:w03) (cs:List TConf) (n:Nat) (σ:St):Prop:=∃(i:Nat) (S W:List TConf) (m:Bool),i≤cs.length∧n=cs.length - i∧Clo ps (cs.take i) [] S W m∧
 σ=⟨[(6,.one (.pt 4 6 [] 0 0)),(11,.one (.ar false 0 2 (cs.map z0k))),(12,aI cs.length),(13,aI i)],[(6,clO ps S W m)]⟩
theorem r1m (g:TGram) (cs:List TConf) (hg:y02 g=true) (hw:z0q g<2 ^ 31) (hi: ∀c∈cs,c.row.all (y0o g.parts.length)=true) (hl: ∀c∈cs,c.row.length≤300) (hn:cs.length<2 ^ 31) :
 z06 Tryz.prog 124 [.agg (z0b g),.one (.ar false 0 2 (cs.map z0k))] (w1b g.parts cs):=by
 refine Prun c_124 (by simp[m1y]) (by simp) ?_
 (conv in e1a=>reduce); unfold m1y
 have hcl:=fun i (h:i<cs.length) S W m (hC:Clo g.parts (cs.take (i+1)) [cs[i]] S W m)=>n1f g hg hw (cs.take (i+1)) (fun c hc=>hi c (List.mem_of_mem_take hc)) cs[i] S W m hC (hl _ (List.getElem_mem h))
 obtain⟨ps⟩:=g
 simp only at hcl
 simp[z0b]
 refine z04 (o1o ps cs) (cs.length) ⟨0,[],[],false,by omega,rfl,.inl ⟨rfl,Part.nil⟩,by simp[clO]⟩ ?_
 rintro n σ ⟨i,S,W,m,hi2,rfl,hC,rfl⟩
 by_cases h:i<cs.length
 case neg=>
  have hk:cs.take i=cs:=List.take_of_length_le (by omega)
  rw[hk] at hC
  rcases hC with⟨rfl,hP⟩ | ⟨rfl,hM⟩
  ·have hd:=hP.done
   have hcp:=w1z S (by have:=hP.ls; omega) (fun x hx=>by have:=hP.lr x (.inl hx); simp only[y0f,v09]; omega)
   simp[h,clO]
   refine z00 hcp (by simp) ?_
   simp[w1b,j03 hd]
  ·simp[h,clO,w1b,j02 hM]
 have hcall:=hcl i h S W m (w1c i h hC)
 have wi:IntKind.i64.wrap ((i:Int)+1)=i+1:=z08 (by omega) (by omega)
 obtain⟨c,hc⟩: ∃c,cs[i]=c:=⟨_,rfl⟩
 rw[hc] at hcall
 obtain⟨c1,c2⟩:=c
 simp only[z0k,clO] at hcall
 simp[h,hc,z0k,clO]
 refine CallsA.mono hcall ?_
 rintro r1 H1 ⟨S3,W3,m3,rfl,rfl,hC3⟩
 refine⟨_,rfl,rfl,rfl,.inl rfl,by simp,?_⟩
 simp[clO]
 exact⟨cs.length - (i+1),by omega,i+1,S3,W3,m3,by omega,rfl,hC3,by simp[wi,clO]⟩
end
end Go.Am
