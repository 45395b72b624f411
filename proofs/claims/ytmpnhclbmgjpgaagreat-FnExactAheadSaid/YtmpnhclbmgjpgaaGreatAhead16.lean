/- Text 16 for FnExactAhead. -/
import Derived.Test.YtmpnhclbmgjpgaaGreatAhead15
set_option linter.unusedVariables false
set_option linter.unusedSimpArgs false
namespace Go.Am
open Go.Proofs
set_option maxHeartbeats 4000000
set_option maxRecDepth 100000
attribute [-simp] BitVec.toNat_or BitVec.toNat_and BitVec.toNat_ofInt
section
attribute [-simp] z03 z05 z02
def d1k:K:=dc 0x104ec10410052c12c2e4a004285003043104e8104101a09ae9944a609651f574825e915847d82ae560445d1f5500109647d513047551f4501447d0004d1f4101247d45001082ae4f4043ce00108e34c04734500c0003c10011400060c90892063442070c7000185004040000dc50401050400c7005140e4104100013a041040
def k18:Nat×List RV:=(27,[.t 4])
theorem c_182:z01 PA 182 k18 d1k:=by unfold z01; kernel_rfl
theorem k0j (row:List Int) (f:Nat) (hf:f<2 ^ 20) (hr:lL l0 row):z06 Tryz.prog 182 [.one (.ar false 0 1 (row.map rI)),.one (.ar false 0 1 ((z0s f 20).map rI))] (aB (w04 f row)):=by
 refine Prun c_182 (by simp[k18]) (by simp) ?_
 (conv in d1k=>reduce); unfold k18
 have hr1:=hr.1
 have hbl:=x0x f
 generalize hT:w04 f row=T
 have hT0:w04 f (row.drop 0)=T:=by simpa using hT
 clear hT
 simp
 refine z04 (fun n σ=>∃i:Nat,i≤row.length∧n=row.length - i∧w04 f (row.drop i)=T∧σ=⟨[(0,.one (.ar false 0 1 (row.map rI))),(1,.one (.ar false 0 1 ((z0s f 20).map rI))),(5,aI i)],[]⟩) (row.length) ⟨0,by simpa using hT0⟩ ?_
 rintro n σ ⟨i,hi,rfl,ht,rfl⟩
 by_cases h:i<row.length
 case neg=>
  unfold w04 at ht
  rw[x0w h] at ht
  subst ht
  simp[h]
 have hri:=hr.2 i h
 unfold w04 at ht
 rw[x05 h] at ht
 have wi:IntKind.i64.wrap ((i:Int)+1)=i+1:=z08 (by omega) (by omega)
 generalize hx:row[i]=x at *
 simp only[l0] at hri
 simp[h,hx]
 by_cases c1:100≤x
 case neg=>
  have c1':x<100:=by omega
  simp[c1'] at ht
  simp[c1]
  exact⟨row.length - (i+1),by omega,i+1,by omega,rfl,by simpa [w04] using ht,by rw[wi]; simp⟩
 have c1': ¬x<100:=by omega
 have wx:IntKind.i64.wrap (x - 100)=x - 100:=z08 (by omega) (by omega)
 have hm:=u0w (x:=x - 100) hf (by omega)
 have hh:=x0j (z0s f 20) (x - 100) (by omega)
 rw[hm] at hh
 simp[c1,wx,hx,h]
 refine z00 hh (by simp) ?_
 cases c3:f.testBit (x - 100).toNat with
 | false=>simp[c1',prt,c3] at ht; simp[ht]
 | true=>
   simp[c1',prt,c3] at ht
   simp
   exact⟨row.length - (i+1),by omega,i+1,by omega,rfl,by simpa [w04,prt] using ht,by rw[wi]; simp⟩
def e1e:K:=dc 0x102c412680c0081004481482e51004444003045641642e580046050030468c18c2e620048860030430f0048a2fb829a9147a05006a0300406d085a2cac23aa144a03003a2a001082a29a011c1a06000a270010a79a50479850259000429010062810051401060e10a181a34481f0df78004279d7011dd14071b00109b04019a1802010000371851030461851030451c41460390410400c50021835c25d64cd1165435540010940401931401410000371440c11451030441c214503904104004500018340240f30e10f38338d00108d04018c1001410000371030441030431c01440390410400031022c12c30020402822892492015691480410420c10000c70470000433c20400810c10fc0410016a8202040
def l12:Nat×List RV:=(50,[.t 2])
theorem c_128:z01 PA 128 l12 e1e:=by unfold z01; kernel_rfl
set_option maxRecDepth 200000 in
theorem o0f (g:TGram) (hg:y02 g=true) (hw:z0q g<2 ^ 31) (hl:x0d g):z06 Tryz.prog 128 [.agg (z0b g)] (.one (.ar true 3 1 ((z0s (k0p g.parts) 20).map rI))):=by
 refine Prun c_128 (by simp[l12]) (by simp) ?_
 (conv in e1e=>reduce); unfold l12
 have hn:=x0k hg
 have hgo:=u0o g hw
 rw[hg] at hgo
 obtain⟨ps⟩:=g
 simp only[z0b] at hgo
 simp only[z0q] at hw
 simp only[x0d] at hl
 simp only at hn
 have hln:=z0a (wL (wL w0)) ps
 have hgr:s0t (z0h (setP w04) 0 ps) ps.length:=y0e fun k al hk _=>x01 _ hk al
 have hlt:=y0u hgr (Nat.two_pow_pos _:0<2 ^ ps.length)
 have hf20: ∀{f:Nat},f<2 ^ ps.length→f<2 ^ 20:=fun h=>Nat.lt_of_lt_of_le h (Nat.pow_le_pow_right (by omega) hn.2)
 simp[z0b]
 refine z00 hgo (by simp) ?_
 simp
 refine z04 (fun n σ=>∃m:Nat,m≤ps.length+1∧n=ps.length+1 - m∧σ=⟨[(1,.one (.pt 1 1 [] 0 0)),(3,.one (.vw 3 1 3 [] 0 (z0s (iter (z0h (setP w04) 0 ps) m 0) 20).length)),(4,aI m)],[(1,⟨66,1,[[.ar false 0 1 (ps.map sISS)]]⟩),(3,⟨3,1,(z0s (iter (z0h (setP w04) 0 ps) m 0) 20).map rI⟩)]⟩) (ps.length+1) ⟨0,by simp[iter,z0s]⟩ ?_
 rintro n σ ⟨m,hm,rfl,rfl⟩
 have wm:IntKind.i64.wrap ((m:Int)+1)=m+1:=z08 (by omega) (by omega)
 by_cases hmn:m≤ps.length
 case neg=>
  have:m=ps.length+1:=by omega
  subst this
  have c: ¬((ps.length:Int)+1≤ps.length):=by omega
  simp[c,k0p]
 have c:(m:Int)≤ps.length:=by omega
 have hfm:=hlt m
 have hpm:z0h (setP w04) 0 ps (iter (z0h (setP w04) 0 ps) m 0)=iter (z0h (setP w04) 0 ps) (m+1) 0:=rfl
 generalize hT:iter (z0h (setP w04) 0 ps) (m+1) 0=T at *
 generalize iter (z0h (setP w04) 0 ps) m 0=f0 at *
 simp[c]
 refine z04 (fun n σ=>∃(i f:Nat),i≤ps.length∧n=ps.length - i∧f<2 ^ ps.length∧z0h (setP w04) i (ps.drop i) f=T∧σ=⟨[(1,.one (.pt 1 1 [] 0 0)),(3,.one (.vw 3 1 3 [] 0 (z0s f 20).length)),(4,aI m),(5,aI i)],[(1,⟨66,1,[[.ar false 0 1 (ps.map sISS)]]⟩),(3,⟨3,1,(z0s f 20).map rI⟩)]⟩) (ps.length) ⟨0,f0,by omega,rfl,hfm,by simpa using hpm,by simp⟩ ?_
 rintro n σ ⟨i,f,hi,rfl,hf,ht,rfl⟩
 have wi:IntKind.i64.wrap ((i:Int)+1)=i+1:=z08 (by omega) (by omega)
 by_cases h:i<ps.length
 case neg=>
  rw[w0w h] at ht
  subst ht
  simp[h]
  exact⟨ps.length+1 - (m+1),by omega,m+1,by omega,rfl,by simp[hT,wm]⟩
 rw[w07 h] at ht
 have hli:=hl.2 i h
 have hwa:=z0x (wL (wL w0)) ps i h
 generalize hal:ps[i]=al at *
 have hla:=z0a (wL w0) al
 simp[h]
 generalize hT2:setP w04 i al f=T2 at ht
 refine z04 (fun n σ=>∃(j f:Nat),j≤al.length∧n=al.length - j∧f<2 ^ ps.length∧setP w04 i (al.drop j) f=T2∧σ=⟨[(1,.one (.pt 1 1 [] 0 0)),(3,.one (.vw 3 1 3 [] 0 (z0s f 20).length)),(4,aI m),(5,aI i),(6,aI j)],[(1,⟨66,1,[[.ar false 0 1 (ps.map sISS)]]⟩),(3,⟨3,1,(z0s f 20).map rI⟩)]⟩) (al.length) ⟨0,f,by omega,rfl,hf,by simpa using hT2,by simp⟩ ?_
 rintro n σ ⟨j,f,hj,rfl,hf,ht2,rfl⟩
 have wj:IntKind.i64.wrap ((j:Int)+1)=j+1:=z08 (by omega) (by omega)
 by_cases h2:j<al.length
 case neg=>
  rw[n0w h2] at ht2
  subst ht2
  simp[h,hal,h2,sISS]
  exact⟨ps.length - (i+1),by omega,i+1,by omega,rfl,f,hf,ht,by simp[wi]⟩
 rw[o03 h2] at ht2
 have hlj:=hli.2 j h2
 generalize hrw:al[j]=row at *
 simp[h,hal,h2,hrw,sISS,sIS]
 refine z00 (k0j row f (hf20 hf) hlj) (by simp) ?_
 have hbl:=x0x f
 cases c2:w04 f row with
 | false=>
   rw[c2] at ht2
   simp
   exact⟨al.length - (j+1),by omega,j+1,by omega,rfl,f,hf,by simpa using ht2,by simp[wj]⟩
 | true=>
   rw[c2] at ht2
   have hsa:=w0m (z0s f 20) i (by omega)
   rw[w0j (by omega:i<20)] at hsa
   simp
   refine z00 hsa (by simp) ?_
   simp
   exact⟨al.length - (j+1),by omega,j+1,by omega,rfl,f ||| 2 ^ i,q08 hf h,by simpa using ht2,by simp[wj]⟩
def e1f:K:=dc 0x102638068a030020401130530b94801121000c115a05a0b96401191400c11a8040a02e670049c6003047d413680b9d0010ca070030430d7e019e85b82b80a6a459a882ae55e01125a14e000429284f84b80478e81c08a84780010a1a10e0fe011e0a0601fa0ee000427a83783380477681407282f800109ba010066a80c03c1278099a20ab92384046281f8001097a06e05e011d6a07015a04e000425280f80b80474e81804a8078001091a00e370474281403e8d800423a804018c0401c5006183cc22e8ca93442a8c43268c00042228bee0471e81801a8b40042168b2b0471281400e8a800420a8040181a0700b040000dc71851030471c61440c11871851c0e410410051401060e60a695f3449640e48c00428e28411e21408600010a004019f1802010000371851030461851030451c41460390410400c319e09e74975c6c25e915c1406c30040400031400860d80985d43445d60d6540042541006505005040000dc51030451440c1107085140e410410011400060d109140d38440f0cf380042381006344005040000dc40c11040c10c7005100e410410000cc04c0390400433c20400c408b04b0000433c20402822892492015691480410420c10000810c10fc0410016a8202040
def l13:Nat×List RV:=(81,[.t 2])
theorem c_129:z01 PA 129 l13 e1f:=by unfold z01; kernel_rfl
set_option maxRecDepth 200000 in
theorem n0f (g:TGram) (hg:y02 g=true) (hw:z0q g<2 ^ 31) (hl:x0d g):z06 Tryz.prog 129 [.agg (z0b g)] (.one (.ar true 3 1 ((z0s (rchs g.parts) 20).map rI))):=by
 refine Prun c_129 (by simp[l13]) (by simp) ?_
 (conv in e1f=>reduce); unfold l13
 have hn:=x0k hg
 have hs:=w0l hg
 have hgo:=u0o g hw
 rw[hg] at hgo
 obtain⟨ps⟩:=g
 simp only[z0q] at hw
 simp only[x0d] at hl
 simp only[z0b] at hgo
 simp only at hn hs
 have hln:=z0a (wL (wL w0)) ps
 have hgr:s0t (z0h rchP 0 ps) ps.length:=y0e fun k al hk hm=>r0v (hs al hm)
 have hlt:=y0u hgr (show 1<2 ^ ps.length from Nat.one_lt_two_pow (by omega))
 have hf20: ∀{f:Nat},f<2 ^ ps.length→f<2 ^ 20:=fun h=>Nat.lt_of_lt_of_le h (Nat.pow_le_pow_right (by omega) hn.2)
 have hb1:z0s 1 20=[0]:=by decide
 simp[z0b]
 refine z00 hgo (by simp) ?_
 simp
 refine z04 (fun n σ=>∃m:Nat,m≤ps.length+1∧n=ps.length+1 - m∧σ=⟨[(1,.one (.pt 1 1 [] 0 0)),(3,.one (.vw 3 1 3 [] 0 (z0s (iter (z0h rchP 0 ps) m 1) 20).length)),(4,aI m)],[(1,⟨66,1,[[.ar false 0 1 (ps.map sISS)]]⟩),(3,⟨3,1,(z0s (iter (z0h rchP 0 ps) m 1) 20).map rI⟩)]⟩) (ps.length+1) ⟨0,by simp[iter,hb1]⟩ ?_
 rintro n σ ⟨m,hm,rfl,rfl⟩
 have wm:IntKind.i64.wrap ((m:Int)+1)=m+1:=z08 (by omega) (by omega)
 by_cases hmn:m≤ps.length
 case neg=>
  have:m=ps.length+1:=by omega
  subst this
  have c: ¬((ps.length:Int)+1≤ps.length):=by omega
  simp[c,rchs]
 have c:(m:Int)≤ps.length:=by omega
 have hfm:=hlt m
 have hpm:z0h rchP 0 ps (iter (z0h rchP 0 ps) m 1)=iter (z0h rchP 0 ps) (m+1) 1:=rfl
 generalize hT:iter (z0h rchP 0 ps) (m+1) 1=T at *
 generalize iter (z0h rchP 0 ps) m 1=f0 at *
 simp[c]
 refine z04 (fun n σ=>∃(i f:Nat),i≤ps.length∧n=ps.length - i∧f<2 ^ ps.length∧z0h rchP i (ps.drop i) f=T∧σ=⟨[(1,.one (.pt 1 1 [] 0 0)),(3,.one (.vw 3 1 3 [] 0 (z0s f 20).length)),(4,aI m),(5,aI i)],[(1,⟨66,1,[[.ar false 0 1 (ps.map sISS)]]⟩),(3,⟨3,1,(z0s f 20).map rI⟩)]⟩) (ps.length) ⟨0,f0,by omega,rfl,hfm,by simpa using hpm,by simp⟩ ?_
 rintro n σ ⟨i,f,hi,rfl,hf,ht,rfl⟩
 have wi:IntKind.i64.wrap ((i:Int)+1)=i+1:=z08 (by omega) (by omega)
 by_cases h:i<ps.length
 case neg=>
  rw[w0w h] at ht
  subst ht
  simp[h]
  exact⟨ps.length+1 - (m+1),by omega,m+1,by omega,rfl,by simp[hT,wm]⟩
 rw[w07 h] at ht
 have hli:=hl.2 i h
 have hsa:=hs ps[i] (List.getElem_mem h)
 have hwa:=z0x (wL (wL w0)) ps i h
 generalize hal:ps[i]=al at *
 have hla:=z0a (wL w0) al
 have hbl:=x0x f
 have hh:=x0j (z0s f 20) i (by omega)
 rw[u0w (hf20 hf) (by omega),Int.toNat_natCast] at hh
 simp[h]
 refine z00 hh (by simp) ?_
 cases c0:f.testBit i with
 | false=>
   simp
   exact⟨ps.length - (i+1),by omega,i+1,by omega,rfl,f,hf,by simpa [rchP,c0] using ht,by simp[wi]⟩
 | true=>
 simp
 generalize hT2:rchP i al f=T2 at ht
 have hT2b:al.foldl t0m f=T2:=by rw[← hT2]; simp[rchP,c0]
 clear hT2
 refine z04 (fun n σ=>∃(j f:Nat),j≤al.length∧n=al.length - j∧f<2 ^ ps.length∧(al.drop j).foldl t0m f=T2∧σ=⟨[(1,.one (.pt 1 1 [] 0 0)),(3,.one (.vw 3 1 3 [] 0 (z0s f 20).length)),(4,aI m),(5,aI i),(6,aI j)],[(1,⟨66,1,[[.ar false 0 1 (ps.map sISS)]]⟩),(3,⟨3,1,(z0s f 20).map rI⟩)]⟩) (al.length) ⟨0,f,by omega,rfl,hf,by simpa using hT2b,by simp⟩ ?_
 rintro n σ ⟨j,f,hj,rfl,hf,ht2,rfl⟩
 have wj:IntKind.i64.wrap ((j:Int)+1)=j+1:=z08 (by omega) (by omega)
 by_cases h2:j<al.length
 case neg=>
  rw[t01 h2] at ht2
  subst ht2
  simp[h,hal,h2,sISS]
  exact⟨ps.length - (i+1),by omega,i+1,by omega,rfl,f,hf,ht,by simp[wi]⟩
 rw[v0o h2] at ht2
 have hlj:=hli.2 j h2
 have hsr:=hsa al[j] (List.getElem_mem h2)
 generalize hrw:al[j]=row at *
 have hlr:=hlj.1
 simp[h,hal,h2,sISS]
 generalize hT3:t0m f row=T3 at ht2
 refine z04 (fun n σ=>∃(k f:Nat),k≤row.length∧n=row.length - k∧f<2 ^ ps.length∧t0m f (row.drop k)=T3∧σ=⟨[(1,.one (.pt 1 1 [] 0 0)),(3,.one (.vw 3 1 3 [] 0 (z0s f 20).length)),(4,aI m),(5,aI i),(6,aI j),(7,aI k)],[(1,⟨66,1,[[.ar false 0 1 (ps.map sISS)]]⟩),(3,⟨3,1,(z0s f 20).map rI⟩)]⟩) (row.length) ⟨0,f,by omega,rfl,hf,by simpa using hT3,by simp⟩ ?_
 rintro n σ ⟨k,f,hk,rfl,hf,ht3,rfl⟩
 by_cases h3:k<row.length
 case neg=>
  rw[j0k h3] at ht3
  subst ht3
  simp[h,hal,h2,hrw,h3,sISS,sIS]
  exact⟨al.length - (j+1),by omega,j+1,by omega,rfl,f,hf,ht2,by simp[wj]⟩
 have wk:IntKind.i64.wrap ((k:Int)+1)=k+1:=z08 (by omega) (by omega)
 rw[l08 h3] at ht3
 have hsx:=hsr row[k] (List.getElem_mem h3)
 generalize hx:row[k]=x at *
 simp[h,hal,h2,hrw,h3,hx,sISS,sIS]
 by_cases c2:100≤x
 case neg=>
  rw[if_neg c2] at ht3
  simp[c2]
  exact⟨row.length - (k+1),by omega,k+1,by omega,rfl,f,hf,ht3,by simp[wk]⟩
 rw[if_pos c2] at ht3
 have hpx:=hsx c2
 have hbl:=x0x f
 have wx:IntKind.i64.wrap (x - 100)=((prt x:Nat):Int):=by rw[z08 (by omega) (by unfold prt at hpx; omega)]; unfold prt; omega
 have hsa:=w0m (z0s f 20) (prt x) (by omega)
 rw[w0j (by omega:prt x<20)] at hsa
 simp[c2,wx,h,hal,h2,hrw,h3,hx,sISS,sIS]
 refine z00 hsa (by simp) ?_
 simp
 exact⟨row.length - (k+1),by omega,k+1,by omega,rfl,f ||| 2 ^ prt x,q08 hf hpx,ht3,by simp[wk]⟩
end
end Go.Am
