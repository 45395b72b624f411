/- Text 18 for FnExactAhead. -/
import Derived.Test.YtmpnhclbmgjpgaaGreatAhead16
set_option linter.unusedVariables false
set_option linter.unusedSimpArgs false
namespace Go.Am
open Go.Proofs
set_option maxHeartbeats 4000000
set_option maxRecDepth 100000
attribute [-simp] BitVec.toNat_or BitVec.toNat_and BitVec.toNat_ofInt
section
attribute [-simp] z03 z05 z02
def rB (f:Nat):List C:=[.ar true 3 1 ((z0s f 20).map rI)]
@[simp] theorem rB_len (f:Nat):(rB f).length=1:=rfl
theorem m1f:rB 0=[.ar true 3 1 []]:=by
 have:z0s 0 20=[]:=by decide
 simp[rB,this]
theorem a1v (v:List Nat) (k m:Nat):(v.map rB).set k (rB m)=(v.set k m).map rB:=by rw[List.map_set]
theorem f1t {a b x:Nat} (hx:x<20) (hb:b<2 ^ 20):(z0s b 20).foldl v0h (v0h (z0s a 20) x)=z0s (a ||| (2 ^ x ||| b)) 20:=by
 rw[w0j hx,m0t 20 _ _ (Nat.le_refl _),Nat.mod_eq_of_lt hb,Nat.or_assoc]
def e1c:K:=dc 0x10277806da040020401570570b95801161400c119e05e0b974011d1800c11e8040a02e670049c7003049178055a02e44e00114a090030431867380aca1be09ae86b8678097a45aa8280a680c0101017e18e0004bf28a0ce0be011e7a16e12e0236a162a11e10e029a9166a15e000429685384f80479282808e81008682808283f800109fa0ee0de011dea0601da0401ca0601ba0400f00020028ae016a882ae49e01119a08e000426281f81b80475e82405a82001810071401860c3e024e8e82e352a0ab90784044a8368f40e00042468368f77d811d0a0da3d2403e8368f4800ea0da3d368d00328cf13442e8c832a82002682402c10000372481c61440c12492071851030481c6149039041040230048a2f001087a2eb411c6a07005a2c001084a2ba811c3a06002a29001081a010062410051401060e60a695f3449640e48c00428e28411e21808600010a004019f1c02010000371c61440c11c71851030461c41470390410400c500218370271b60d11b6836990010990401981801410000371851030461851030451c214603904104004500018354255444e1144c34d20010920401911401410000371440c11451030441c014503904104000440140f3c10c10c16013a894f38338d00108d0401850400cc04c2c132a14b0410420c100204ea010fc0410016a8202040
def l10:Nat×List RV:=(86,[.t 2])
theorem c_126:z01 PA 126 l10 e1c:=by unfold z01; kernel_rfl
set_option maxRecDepth 200000 in
theorem m0r (g:TGram) (hg:y02 g=true) (hw:z0q g<2 ^ 31) (hl:x0d g):z06 Tryz.prog 126 [.agg (z0b g)] (.one (.ar true 54 1 ((u0a g.parts).map rB))):=by
 refine Prun c_126 (by simp[l10]) (by simp) ?_
 (conv in e1c=>reduce); unfold l10
 have hn:=x0k hg
 have hs:=w0l hg
 have hem:=u0d g hg hw hl
 have hle:y00 g.parts<2 ^ 20:=Nat.lt_of_lt_of_le (y0u (y0e (ps:=g.parts) fun k al hk _=>x01 y0l hk al) (Nat.two_pow_pos _) _) (Nat.pow_le_pow_right (by omega) hn.2)
 obtain⟨ps⟩:=g
 simp only[z0q] at hw
 simp only[x0d] at hl
 simp only[z0b] at hem
 simp only at hn hs hle
 have hln:=z0a (wL (wL w0)) ps
 have hvk:=fun m=>n0x (e:=y00 ps) hs m
 have hle2:(ps.length:Int)≤4294967296:=by omega
 simp only[u0a]
 generalize y00 ps=e at *
 have hbe:=x0x e
 have h0:List.replicate ps.length [C.ar true 3 1 []]=(List.replicate ps.length 0).map rB:=by rw[List.map_replicate,m1f]
 simp[z0b]
 refine z00 hem (by simp) ?_
 simp[hle2,h0]
 rw[← List.map_replicate]
 refine z04 (fun n σ=>∃m:Nat,m≤ps.length+1∧n=ps.length+1 - m∧σ=⟨[(1,.one (.pt 1 1 [] 0 0)),(3,.one (.vw 3 1 3 [] 0 (z0s e 20).length)),(4,.one (.vw 54 1 4 [] 0 ps.length)),(5,aI m)],[(1,⟨66,1,[[.ar false 0 1 (ps.map sISS)]]⟩),(3,⟨3,1,(z0s e 20).map rI⟩),(4,⟨54,1,(iter (z0h (stP e) 0 ps) m (List.replicate ps.length 0)).map rB⟩)]⟩) (ps.length+1) ⟨0,by simp[iter]⟩ ?_
 rintro n σ ⟨m,hm,rfl,rfl⟩
 have wm:IntKind.i64.wrap ((m:Int)+1)=m+1:=z08 (by omega) (by omega)
 have hvm:=hvk m
 by_cases hmn:m≤ps.length
 case neg=>
  have:m=ps.length+1:=by omega
  subst this
  have c: ¬((ps.length:Int)+1≤ps.length):=by omega
  simp[c,hvm.1]
  rw[List.take_take,Nat.min_self,List.take_of_length_le (by simp[hvm.1])]
 have c:(m:Int)≤ps.length:=by omega
 have hpm:z0h (stP e) 0 ps (iter (z0h (stP e) 0 ps) m (List.replicate ps.length 0))=iter (z0h (stP e) 0 ps) (m+1) (List.replicate ps.length 0):=rfl
 generalize hT:iter (z0h (stP e) 0 ps) (m+1) (List.replicate ps.length 0)=T at *
 generalize iter (z0h (stP e) 0 ps) m (List.replicate ps.length 0)=v0 at *
 simp[c]
 refine z04 (fun n σ=>∃(i:Nat) (v:List Nat),i≤ps.length∧n=ps.length - i∧VOk ps.length v∧z0h (stP e) i (ps.drop i) v=T∧σ=⟨[(1,.one (.pt 1 1 [] 0 0)),(3,.one (.vw 3 1 3 [] 0 (z0s e 20).length)),(4,.one (.vw 54 1 4 [] 0 ps.length)),(5,aI m),(6,aI i)],[(1,⟨66,1,[[.ar false 0 1 (ps.map sISS)]]⟩),(3,⟨3,1,(z0s e 20).map rI⟩),(4,⟨54,1,v.map rB⟩)]⟩) (ps.length) ⟨0,v0,by omega,rfl,hvm,by simpa using hpm,by simp⟩ ?_
 rintro n σ ⟨i,v,hi,rfl,hv,ht,rfl⟩
 have wi:IntKind.i64.wrap ((i:Int)+1)=i+1:=z08 (by omega) (by omega)
 by_cases h:i<ps.length
 case neg=>
  rw[w0w h] at ht
  subst ht
  simp[h]
  exact⟨ps.length+1 - (m+1),by omega,m+1,by omega,rfl,by simp[hT,wm]⟩
 rw[w07 h] at ht
 have hli:=hl.2 i h
 have hsa:=hs ps[i] (List.getElem_mem h)
 have hwa:=z0x (wL (wL w0)) ps i h
 generalize hal:ps[i]=al at *
 have hla:=z0a (wL w0) al
 simp[h]
 generalize hT2:stP e i al v=T2 at ht
 refine z04 (fun n σ=>∃(j:Nat) (v:List Nat),j≤al.length∧n=al.length - j∧VOk ps.length v∧stP e i (al.drop j) v=T2∧σ=⟨[(1,.one (.pt 1 1 [] 0 0)),(3,.one (.vw 3 1 3 [] 0 (z0s e 20).length)),(4,.one (.vw 54 1 4 [] 0 ps.length)),(5,aI m),(6,aI i),(7,aI j)],[(1,⟨66,1,[[.ar false 0 1 (ps.map sISS)]]⟩),(3,⟨3,1,(z0s e 20).map rI⟩),(4,⟨54,1,v.map rB⟩)]⟩) (al.length) ⟨0,v,by omega,rfl,hv,by simpa using hT2,by simp⟩ ?_
 rintro n σ ⟨j,v,hj,rfl,hv,ht2,rfl⟩
 have wj:IntKind.i64.wrap ((j:Int)+1)=j+1:=z08 (by omega) (by omega)
 by_cases h2:j<al.length
 case neg=>
  rw[s1h h2] at ht2
  subst ht2
  simp[h,hal,h2,sISS]
  exact⟨ps.length - (i+1),by omega,i+1,by omega,rfl,v,hv,ht,by simp[wi]⟩
 rw[z16 h2] at ht2
 have hlj:=hli.2 j h2
 have hsr:=hsa al[j] (List.getElem_mem h2)
 generalize hrw:al[j]=row at *
 have hlr:=hlj.1
 simp[h,hal,h2,hrw,sISS,sIS]
 generalize hT3:t0e e i row v=T3 at ht2
 refine z04 (fun n σ=>∃(k:Nat) (v:List Nat),k≤row.length∧n=row.length - k∧VOk ps.length v∧t0e e i (row.drop k) v=T3∧σ=⟨[(1,.one (.pt 1 1 [] 0 0)),(3,.one (.vw 3 1 3 [] 0 (z0s e 20).length)),(4,.one (.vw 54 1 4 [] 0 ps.length)),(5,aI m),(6,aI i),(7,aI j),(8,.one (.ar false 0 1 (row.map rI))),(9,aI k)],[(1,⟨66,1,[[.ar false 0 1 (ps.map sISS)]]⟩),(3,⟨3,1,(z0s e 20).map rI⟩),(4,⟨54,1,v.map rB⟩)]⟩) (row.length) ⟨0,v,by omega,rfl,hv,by simpa using hT3,by simp⟩ ?_
 rintro n σ ⟨k,v,hk,rfl,hv,ht3,rfl⟩
 by_cases h3:k<row.length
 case neg=>
  rw[e0o h3] at ht3
  subst ht3
  simp[h3]
  exact⟨al.length - (j+1),by omega,j+1,by omega,rfl,v,hv,ht2,by simp[wj]⟩
 have wk:IntKind.i64.wrap ((k:Int)+1)=k+1:=z08 (by omega) (by omega)
 rw[i01 h3] at ht3
 have hsx:=hsr row[k] (List.getElem_mem h3)
 generalize hx:row[k]=x at *
 simp[h3,hx]
 by_cases c2:100≤x
 case neg=>
  rw[if_neg c2] at ht3
  subst ht3
  simp[c2]
  exact⟨al.length - (j+1),by omega,j+1,by omega,rfl,v,hv,ht2,by simp[wj]⟩
 rw[if_pos c2] at ht3
 have hpx:=hsx c2
 have hil:i<v.length:=by rw[hv.1]; exact h
 have hxl:prt x<v.length:=by rw[hv.1]; exact hpx
 have wx:IntKind.i64.wrap (x - 100)=((prt x:Nat):Int):=by rw[z08 (by omega) (by unfold prt at hpx; omega)]; unfold prt; omega
 have hvi:=hv.2 i
 have hvx:=hv.2 (prt x)
 rw[y0p hil] at hvi
 rw[y0p hxl] at hvx
 have hup:upd v i (prt x)=v.set i (v[i] ||| (2 ^ prt x ||| v[prt x])):=by rw[upd,y0p hil,y0p hxl]
 have hvo:=o0q hv h hpx
 rw[hup] at hvo ht3
 have hset:=a1v v i (v[i] ||| (2 ^ prt x ||| v[prt x]))
 obtain⟨a,ha⟩: ∃a,v[i]=a:=⟨_,rfl⟩
 obtain⟨b,hb⟩: ∃b,v[prt x]=b:=⟨_,rfl⟩
 rw[ha] at hvi
 rw[hb] at hvx
 rw[ha,hb] at hvo ht3 hset
 have hb1:=x0x a
 have hb2:=x0x b
 have hsa:=w0m (z0s a 20) (prt x) (by omega)
 have hsl:=j0z (z0s a 20) (prt x)
 have hsj:=t0u (v0h (z0s a 20) (prt x)) (z0s b 20) (by omega) (by omega)
 rw[f1t (by omega) (Nat.lt_of_lt_of_le hvx (Nat.pow_le_pow_right (by omega) hn.2))] at hsj
 have hh:=x0j (z0s e 20) (prt x) (by omega)
 rw[u0w hle (by omega),Int.toNat_natCast] at hh
 have hpv:(prt x:Int)<(ps.length:Int):=by omega
 simp only[rB] at hset
 simp[c2,wx,h3,hx,hpx,h,hil,hxl,rB,ha,hb]
 refine z00 hsa (by simp) ?_
 simp[hxl,rB,ha,hb]
 refine z00 hsj (by simp) ?_
 simp[hil,hxl,rB,h,hset, -List.map_set]
 refine z00 hh (by simp) ?_
 cases c3:e.testBit (prt x) with
 | false=>
   rw[c3] at ht3
   simp at ht3
   subst ht3
   simp
   exact⟨al.length - (j+1),by omega,j+1,by omega,rfl,_,hvo,ht2,by simp[wj,rB, -List.map_set]; exact hset⟩
 | true=>
   rw[c3] at ht3
   simp at ht3
   simp
   exact⟨row.length - (k+1),by omega,k+1,by omega,rfl,_,hvo,ht3,by simp[wk,rB, -List.map_set]; exact hset⟩
end
end Go.Am
