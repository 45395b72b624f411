/- Text 39 for FnExactAhead. -/
import Derived.Test.YtmpnhclbmgjpgaaGreatAhead38
set_option linter.unusedVariables false
set_option linter.unusedSimpArgs false
namespace Go.Am
open Go.Proofs
set_option maxHeartbeats 4000000
set_option maxRecDepth 100000
attribute [-simp] BitVec.toNat_or BitVec.toNat_and BitVec.toNat_ofInt
section
attribute [-simp] z03 z05 z02
theorem y1t (r:TRun) (n:TNode):(putF r n).code=r.code∧(putF r n).pos=r.pos∧(putF r n).look=r.look∧(putF r n).cost=r.cost∧(putF r n).slots.length≤r.slots.length∧(∀s∈(putF r n).slots,s∈r.slots)∧(putF r n).errs=r.errs:=by
 unfold putF
 split
 ·exact⟨rfl,rfl,rfl,rfl,Nat.le_refl _,fun _ h=>h,rfl⟩
 ·exact⟨rfl,rfl,rfl,rfl,by simp,fun s h=>List.dropLast_subset _ h,rfl⟩
theorem e0z: ∀xs:List TSlot,wL x0c xs=xs.length
 | []=>rfl
 | x :: xs=>by rw[wL,e0z xs,List.length_cons]; simp only[x0c]; omega
theorem z2e {g:TGram} (hg:y02 g=true) (k i:Nat):((g.parts.getD k []).getD i []).length≤8∧∀x∈(g.parts.getD k []).getD i [],0≤x∧x<120:=by
 rw[List.getD_eq_getElem?_getD,List.getD_eq_getElem?_getD]
 by_cases hk:k<g.parts.length
 ·rw[List.getElem?_eq_getElem hk,Option.getD_some]
  by_cases hi:i<g.parts[k].length
  ·rw[List.getElem?_eq_getElem hi,Option.getD_some]
   have h:=w09 hg hk (List.getElem_mem hi)
   refine⟨h.1,fun x hx=>?_⟩
   have h2:=List.all_eq_true.1 h.2 x hx
   simp only[y0o,Bool.or_eq_true,z0l] at h2
   have:=(x0k hg).2
   omega
  ·rw[List.getElem?_eq_none (l:=g.parts[k]) (i:=i) (by omega)]; simp
 ·rw[List.getElem?_eq_none (l:=g.parts) (i:=k) (by omega)]; simp
structure StepOk (r r':TRun) (c:Int):Prop where
 w:wRun r'≤wRun r+12
 look:l0 r'.look
 slots:lL t04 r'.slots
 cost:r'.cost=c
theorem a1e {ss ss':List TSlot} (hl:ss'.length<2 ^ 63) (h:lL t04 ss) (hs: ∀s∈ss',s∈ss):lL t04 ss':=
 ⟨hl,fun i hi=>by
   obtain⟨j,hj,e⟩:=List.getElem_of_mem (hs _ (List.getElem_mem hi))
   rw[← e]; exact h.2 j hj⟩
theorem a0p {r:TRun} (n:TNode) (hn:n.kids=[]) (hk:l0 r.look) (hs:lL t04 r.slots):StepOk r (putF r n) r.cost∧wRun (putF r n)≤wRun r+2:=by
 obtain⟨h1,h2,h3,h4,h5,h6,h7⟩:=y1t r n
 have hw:=a1t r n hn
 exact⟨⟨by omega,by rw[h3]; exact hk,a1e (by have:=hs.1; omega) hs h6,h4⟩,hw⟩
theorem n0l {w:List Int} {r:TRun} (hk:l0 r.look) (hs:lL t04 r.slots):StepOk r (t0i w r) r.cost:=
 ⟨by have:=r1c w r; omega,hk,hs,rfl⟩
theorem u1b {g:TGram} {w:List Int} {r:TRun} {x:Int} (hk:l0 r.look) (hs:lL t04 r.slots):StepOk r (v02 g w r x) r.cost:=by
 unfold v02
 split
 ·obtain⟨⟨h1,h2,h3,h4⟩,_⟩:=a0p (r:=r) ⟨0,x,0,r.pos,[]⟩ rfl hk hs
  exact⟨h1,h2,h3,h4⟩
 ·split
  ·exact n0l hk hs
  ·split
   ·obtain⟨⟨h1,h2,h3,h4⟩,h5⟩:=a0p (r:={ r with errs:=r.errs ++ [⟨1,r.pos,x⟩] }) ⟨2,x,0,0,[]⟩ rfl hk hs
    refine⟨?_,h2,h3,h4⟩
    have e:wRun { r with errs:=r.errs ++ [⟨1,r.pos,x⟩] }=wRun r+1:=by simp only[wRun,z0y,wL,wErr]; omega
    omega
   ·exact n0l hk hs
theorem m1d {F:FarF} {g:TGram} {w:List Int} {r:TRun} {k:Int} {c:Int×Int} (hg:y02 g=true) (hc:c.2≤10) (hk:l0 r.look) (hs:lL t04 r.slots) (hb:wRun r<2 ^ 40):StepOk r (r08 F g w r k c) r.cost:=by
 unfold r08
 split
 ·exact⟨Nat.le_add_right _ _,hk,hs,rfl⟩
 ·split
  ·exact⟨Nat.le_add_right _ _,⟨by have:=hk.1; simp only; omega,by simp only; omega⟩,hs,rfl⟩
  ·split
   ·split
    ·have h:=n0l (w:=w) (r:={ r with look:=0 }) ⟨by simp,by simp⟩ hs
     exact⟨h.w,h.look,h.slots,h.cost⟩
    ·obtain⟨⟨h1,h2,h3,h4⟩,h5⟩:=a0p (r:={ r with look:=0,errs:=r.errs ++ [⟨2,r.pos,k⟩] }) ⟨3,k,0,0,[]⟩ rfl ⟨by simp,by simp⟩ hs
     refine⟨?_,h2,h3,h4⟩
     have e:wRun { r with look:=0,errs:=r.errs ++ [⟨2,r.pos,k⟩] }=wRun r+1:=by simp only[wRun,z0y,wL,wErr]; omega
     omega
   ·obtain⟨⟨h1,h2,h3,h4⟩,h5⟩:=a0p (r:={ r with look:=0 }) ⟨1,k,c.1,0,[]⟩ rfl ⟨by simp,by simp⟩ hs
    obtain⟨hr1,hr2⟩:=z2e hg k.toNat c.1.toNat
    generalize (g.parts.getD k.toNat []).getD c.1.toNat []=row at *
    have hls:=z0a x0c r.slots
    have hln:=z0a y0m r.tree.nodes
    have hb2:wL x0c r.slots+wL y0m r.tree.nodes≤wRun r:=by simp only[wRun,x0q]; omega
    have hwm:wL x0c (row.reverse.map fun x=>(⟨x,(r.tree.nodes.length:Int)⟩:TSlot))≤8:=by
     rw[e0z]; simp; exact hr1
    have hp:wL x0c (putF { r with look:=0 } ⟨1,k,c.1,0,[]⟩).slots≤wL x0c (putF { r with look:=0 } ⟨1,k,c.1,0,[]⟩).slots:=Nat.le_refl _
    refine⟨?_,h2,⟨by simp; omega,fun i hi=>?_⟩,h4⟩
    ·have hdl:=k02 x0c r.slots
     have hne:x0q (putF { r with look:=0 } ⟨1,k,c.1,0,[]⟩).tree+wL wErr (putF { r with look:=0 } ⟨1,k,c.1,0,[]⟩).errs≤x0q r.tree+wL wErr r.errs+2:=by
      unfold putF
      split
      ·simp only; omega
      ·rename_i s _
       have:=b08 (r.tree.nodes ++ [⟨1,k,c.1,0,[]⟩]) s.up r.tree.nodes.length
       rw[z0y] at this
       simp only[x0q,wL,y0m] at this ⊢
       omega
     simp only[wRun,z0y] at hne ⊢
     omega
    ·have hm:=List.getElem_mem hi
     simp only at hm
     rcases List.mem_append.1 hm with hm | hm
     ·obtain⟨j,hj,e⟩:=List.getElem_of_mem (List.dropLast_subset _ hm)
      show t04 ((r.slots.dropLast ++ _)[i])
      rw[← e]; exact hs.2 j hj
     ·obtain⟨x,hx,e⟩:=List.mem_map.1 hm
      show t04 ((r.slots.dropLast ++ _)[i])
      rw[← e]
      have:=hr2 x (by simpa using hx)
      exact⟨⟨by simp only; omega,by simp only; omega⟩,⟨by simp only; omega,by simp only; omega⟩⟩
end
section
theorem l0t {g:TGram} {w:List Int} {r:TRun} (h:runC g w r=true) (c:Int):runC g w { { r with cost:=c } with cost:=0 }=true∧inr r.cost 0 599=true:=by
 simp only[runC,Bool.and_eq_true] at h ⊢
 exact⟨⟨⟨⟨h.1.1.1,by decide⟩,h.1.2⟩,h.2⟩,h.1.1.2⟩
def e1y:K:=dc 0x100e060072fc428df6d430e5a983e81c11c23a80403680c10421410031341801cbf0ca33cb10c392a60ba0704708aa01009a03041085040c0222882ae6f3441e8b800421a8b40185a2ca021c4a02e6b0440e8a830a8a40042068144180a270010a714418a0400031261801cbf261c11c2081002e650012fc9470060810031241801cbf248e20828ea6231c11c288100404084286078d1207c37c101e740042745046141000702700e5b2c46da0da6400426451061010005d80012fc6070c65c2e560045950010951c31850400c45060072fc5070470820401394c004bf131c018204048249125140f3838aa1501411c23c100e0c10421410000c43460072fc347047082040302300e4b3042ca00108a1401830400091c01cbf070f6a810c5cab0430a3a810c00000000000000000071d5a1224806fa45205047084040183daa043172ac10c28ea0430000000000000000001c75684850875682030016a8203040
def l1m:Nat×List RV:=(57,[.c 6 7 true])
theorem c_152:z01 PA 152 l1m e1y:=by unfold z01; kernel_rfl
theorem k0f {F:FarF} (hF:s0e F) (g:TGram) (w:List Int) (r:TRun) (hgw:z0q g<2 ^ 31) (hgl:x0d g) (hr:wRun r<2 ^ 30) (hlk:l0 r.look):z06 Tryz.prog 152 [.agg (z0b g),.one (.ar false 0 1 (w.map rI)),.agg (sRun r)] (.agg (rRun (s0x F g w r))):=by
 have hcp:=q0b r (by omega)
 have hok:=n1l g w r hgw hgl (by omega)
 have s1:r.code≠0→s0x F g w r=r:=fun h=>by rw[s0x,if_pos h]
 have s2:r.code=0→okB g w r=false→s0x F g w r = { r with code:=2 }:=fun h h2=>by
  rw[s0x,if_neg (by simp[h])]
  simp only[okB,Bool.and_eq_false_iff] at h2
  by_cases c:inB g w=true
  ·rw[if_pos c,o04,if_neg (by simp[h])]
   rcases h2 with h2 | h2
   ·rw[c] at h2; cases h2
   ·rw[if_neg (by simp[h2])]
  ·rw[if_neg c]
 have s3:r.code=0→okB g w r=true→s0x F g w r=goF F g w { r with cost:=r.cost+1 }:=fun h h2=>by
  simp only[okB,Bool.and_eq_true] at h2
  rw[s0x,if_neg (by simp[h]),if_pos h2.1,o04,if_neg (by simp[h]),if_pos h2.2]
 generalize hLT:s0x F g w r=LT at *
 clear hLT
 refine Prun c_152 (by simp[l1m]) (by simp) ?_
 (conv in e1y=>reduce); unfold l1m
 by_cases k1:r.code=0
 case neg=>
  have e:=s1 k1
  subst e
  clear s1 s2 s3 hok
  obtain⟨c1,c2,c3,c4,ss,⟨ns⟩,es⟩:=LT
  simp only at k1
  simp only[sRun,rRun] at hcp
  simp[z0b,sRun]
  refine z00 hcp (by simp) ?_
  simp[k1,rRun]
 have s2:=s2 k1
 have s3:=s3 k1
 cases k2:okB g w r with
 | false=>
   have e:=s2 k2
   subst e
   rw[k2] at hok
   clear s1 s2 s3
   obtain⟨c1,c2,c3,c4,ss,⟨ns⟩,es⟩:=r
   simp only at k1
   subst k1
   simp only[sRun,rRun,z0b] at hcp hok
   simp[z0b,sRun]
   refine z00 hcp (by simp) ?_
   simp
   refine z00 hok (by simp) ?_
   simp[rRun]
 | true=>
 rw[k2] at hok
 have s3:=s3 k2
 have hh:=k2
 simp only[okB,inB,Bool.and_eq_true,decide_eq_true_eq] at hh
 obtain⟨⟨hio,hc⟩,hrc⟩:=hh
 obtain⟨hrc2,hcost⟩:=l0t hrc (r.cost+1)
 rw[z0l] at hcost
 have hpos:=s0q hrc
 have hwl:=x0z hio
 have hex:=fun h=>o0d w { r with cost:=r.cost+1 } (by simp only[wRun] at hr ⊢; omega) hpos.1 h (by omega)
 have hlt:=fun hs x hx=>d0y g w { r with cost:=r.cost+1 } hs x hx hc hgw hgl hio hrc2 (by simp only[wRun] at hr ⊢; omega)
 have hpt:=fun hs k hx=>v19 hF g w { r with cost:=r.cost+1 } hs k hx hc hgw hgl hio hrc2 (by simp only[wRun] at hr ⊢; omega) hlk
 clear s1 s2 hrc hrc2
 have wc:IntKind.i64.wrap (r.cost+1)=r.cost+1:=z08 (by omega) (by omega)
 obtain⟨c1,c2,c3,c4,ss,⟨ns⟩,es⟩:=r
 simp only at k1 s3 hex hlt hpt hpos wc
 subst k1
 simp only[wRun] at hr
 have hls:=z0a x0c ss
 simp only[sRun,rRun,z0b] at hcp hok hex hlt hpt
 simp[z0b,sRun]
 refine z00 hcp (by simp) ?_
 simp
 refine z00 hok (by simp) ?_
 simp[wc]
 cases hsl:ss with
 | nil=>
   subst hsl
   simp only[goF,List.getLast?_nil] at s3
   by_cases k3:c2<w.length
   ·rw[if_pos k3] at s3
    have hex:=hex k3
    rw[← s3] at hex
    simp[k3]
    simp only[List.map_nil] at hex
    refine z0c hex (by simp) ?_
    simp[rRun]
   ·rw[if_neg k3] at s3
    subst s3
    simp[k3,rRun]
 | cons s0 ss0=>
 have hs:ss≠[]:=by rw[hsl]; simp
 rw[← hsl]
 have hs1:1≤ss.length:=by rw[hsl]; simp
 clear hsl
 have hs1':(1:Int)≤ss.length:=by omega
 have hs0: ¬(ss.length:Int)=0:=by omega
 have hl1:ss.length - 1<ss.length:=by omega
 have hgl2:ss[ss.length - 1]'hl1=ss.getLast hs:=(List.getLast_eq_getElem hs).symm
 obtain⟨⟨y,u⟩,hse⟩: ∃s,ss.getLast hs=s:=⟨_,rfl⟩
 rw[hse] at hgl2
 have w1:IntKind.i64.wrap ((ss.length:Int) - 1)=ss.length - 1:=z08 (by omega) (by omega)
 have hl5:(ss.length:Int) - 1<ss.length:=by omega
 have hl6:(0:Int)≤(ss.length:Int) - 1:=by omega
 have hl7:((ss.length:Int) - 1).toNat=ss.length - 1:=by omega
 simp only[goF,List.getLast?_eq_some_getLast hs,hse] at s3
 by_cases k3:y<100
 ·rw[if_pos k3] at s3
  have hlt:=hlt hs y (by rw[hse])
  rw[← s3] at hlt
  simp[hs,hs0,w1,hl1,hl5,hl6,hl7,hs1',hgl2,x0v,k3]
  refine z0c hlt (by simp) ?_
  simp[rRun]
 ·rw[if_neg k3] at s3
  have hpt:=hpt hs (y - 100) (by rw[hse]; simp)
  rw[← s3] at hpt
  simp[hs,hs0,w1,hl1,hl5,hl6,hl7,hs1',hgl2,x0v,k3]
  refine z0c hpt (by simp) ?_
  simp[rRun]
end
section
attribute [-simp] z03 z05 z02
def CsJ (g:TGram) (R:List C) (ss:List TSlot) (ns:List TNode) (n:Nat) (σ:St):Prop:=∃i:Nat,i≤ss.length∧n=ss.length - i∧(ss.take i).all (v0k g.parts.length ns)=true∧σ=⟨[(0,.one (.ps R)),(4,.one (.pt 1 4 [] 0 0)),(36,.one (.ar false 0 2 (ss.map x0v))),(37,aI ss.length),(38,aI i)],[(4,⟨66,1,[[.ar false 0 1 (g.parts.map sISS)]]⟩)]⟩
def b13:K:=dc 0x106ec1041026538024a02e660040810c41ba0410404f80a3a3a4b8c8a478ec6e0a8a82a8f42e50e0c121a16a3e3f80010a0a16a3e3b80067e85a8f8de0be051dea16a3e33800109da16a3e20119ca16a3e2b800109ba16a3e2780066a85a8f88e05199a16a3e1f8358a16a3e0005e85a8f85e005a82a8f44e095682a8f43e00e740d6a055282a8f42e42e01113a0aa3d0780d2a0aa3d038001091a0aa3ddc0190a0aa3dd8518fa0aa3dd4d3a82a8f4000da0aa3dcc00423282a8f480462e82a8f4aa31009a01e70304228bc00421e820119d7402000c41ba041040b821a8b49168b2a096a85128ac00420e8200182a0404108504002920008bf080000000000828ea481a28042080a269021c40400450001839c2027966344041000dc40039a59040051c01660390259039230010a38841a284d840006040003106e810410200a07fb64aa2de5e3c47d9f9d0de67e700042759f9b106719f9a35b67e000699f99600617ed129625747e1bae40e550d6a05591f9400109547e4c319447e48d4d1f8001247e4500103c93ce0393035a814e34334200c2c00422ca0462893490006010001ba0440416a8202040
def j1p:Nat×List RV:=(77,[.t 6])
theorem c_247:z01 PA 247 j1p b13:=by unfold z01; kernel_rfl
theorem w1y (g:TGram) (w:List Int) (r:TRun) (hw:z0q g<2 ^ 31) (hr:wRun r<2 ^ 31) (hl:lL t04 r.slots):z06 Tryz.prog 247 [.one (.ps (sRun r)),.agg (z0b g),.one (.ar false 0 1 (w.map rI))] (aB (runC g w r)):=by
 refine Prun c_247 (by simp[j1p]) (by simp) ?_
 (conv in b13=>reduce); unfold j1p
 obtain⟨c1,c2,c3,c4,ss,⟨ns⟩,es⟩:=r
 have hi0:=z0n c2 0 w.length
 have hin:=z0n c4 0 599
 simp only[wRun,x0q] at hr
 have hls:=z0a x0c ss
 have hln:=z0a y0m ns
 have hgl:=z0a (wL (wL w0)) g.parts
 have hsy:=fun x h=>j06 g x hw h
 simp only[z0q] at hw
 have hT:runC g w ⟨c1,c2,c3,c4,ss,⟨ns⟩,es⟩=(inr c2 0 w.length && (inr c4 0 599 && (decide (ss.length≤200) && ss.all (v0k g.parts.length ns)))):=by
  simp only[runC,Bool.and_assoc]
 rw[hT]
 clear hT
 obtain⟨ps⟩:=g
 simp only[z0b] at hsy
 simp only at hgl hw hl
 simp[z0b,sRun]
 first | refine z00 hi0 (by simp) ?_ | refine z0c hi0 (by simp) ?_ | refine z0z hi0 (by simp) ?_ | refine z0e hi0 rfl rfl (by simp) (by simp) ?_ | refine⟨_,by simp,hi0,?_⟩
 try simp
 cases inr c2 0 w.length with
 | false=>simp
 | true=>
 simp
 first | refine z00 hin (by simp) ?_ | refine z0c hin (by simp) ?_ | refine z0z hin (by simp) ?_ | refine z0e hin rfl rfl (by simp) (by simp) ?_ | refine⟨_,by simp,hin,?_⟩
 try simp
 cases inr c4 0 599 with
 | false=>simp
 | true=>
 simp
 by_cases h200:ss.length≤200
 case neg=>
  have h1:(200:Int)<ss.length:=by omega
  simp[h200,h1]
 have h1: ¬(200:Int)<ss.length:=by omega
 simp[h200,h1]
 refine z04 (CsJ ⟨ps⟩ (sRun ⟨c1,c2,c3,c4,ss,⟨ns⟩,es⟩) ss ns) ss.length ⟨0,by omega,by omega,rfl,by simp[sRun]⟩ ?_
 rintro n σ ⟨i,hi,rfl,hall,rfl⟩
 by_cases h:i<ss.length
 case neg=>
  have e:i=ss.length:=by omega
  subst e
  rw[List.take_length] at hall
  simp[hall]
 have wi:IntKind.i64.wrap ((i:Int)+1)=i+1:=z08 (by omega) (by omega)
 obtain⟨k1,k2⟩:=b0f h hall
 have hls2:=hl.2 i h
 obtain⟨⟨x,u⟩,hs⟩: ∃s,ss[i]'h=s:=⟨_,rfl⟩
 rw[hs] at k1 k2 hls2
 have hi1:=hsy x hls2.1
 have hi3:=z0n u 0 (ns.length - 1)
 have w3:IntKind.i64.wrap ((ns.length:Int) - 1)=ns.length - 1:=z08 (by omega) (by omega)
 have hfal:v0k ps.length ns ⟨x,u⟩=false→aB false=aB (ss.all (v0k ps.length ns)):=fun h=>by rw[k2 h]
 have hgo2: ∀σ',σ'=(⟨[(0,.one (.ps (sRun ⟨c1,c2,c3,c4,ss,⟨ns⟩,es⟩))),(4,.one (.pt 1 4 [] 0 0)),(36,.one (.ar false 0 2 (ss.map x0v))),(37,aI ss.length),(38,aI ((i:Int)+1))],[(4,⟨66,1,[[.ar false 0 1 (ps.map sISS)]]⟩)]⟩:St)→v0k ps.length ns ⟨x,u⟩=true→∃m,m<ss.length - i∧CsJ ⟨ps⟩ (sRun ⟨c1,c2,c3,c4,ss,⟨ns⟩,es⟩) ss ns m σ':=fun σ' e h2=>⟨ss.length - (i+1),by omega,i+1,by omega,rfl,k1 h2,by rw[e]; rfl⟩
 have hso:v0k ps.length ns ⟨x,u⟩=(y0o ps.length x && (decide (u = -1) || (inr u 0 ((ns.length:Int) - 1) && decide ((ns.getD u.toNat default).kind=1)))):=rfl
 rw[hso] at hfal hgo2
 clear k1 k2 hso hall
 generalize aB (ss.all (v0k ps.length ns))=RR at *
 simp only[sRun] at hgo2 ⊢
 generalize CsJ ⟨ps⟩ _ ss ns=JJ at *
 simp[h,hs,x0v]
 first | refine z00 hi1 (by simp) ?_ | refine z0c hi1 (by simp) ?_ | refine z0z hi1 (by simp) ?_ | refine z0e hi1 rfl rfl (by simp) (by simp) ?_ | refine⟨_,by simp,hi1,?_⟩
 try simp
 cases hx1:y0o ps.length x with
 | false=>
   simp
   exact hfal (by rw[hx1]; rfl)
 | true=>
 simp
 by_cases hu:u = -1
 ·simp[hu,wi]
  exact hgo2 _ rfl (by rw[hx1]; simp[hu])
 simp[hu,w3]
 first | refine z00 hi3 (by simp) ?_ | refine z0c hi3 (by simp) ?_ | refine z0z hi3 (by simp) ?_ | refine z0e hi3 rfl rfl (by simp) (by simp) ?_ | refine⟨_,by simp,hi3,?_⟩
 try simp
 cases hx3:inr u 0 ((ns.length:Int) - 1) with
 | false=>
   simp
   exact hfal (by rw[hx3]; simp[hu])
 | true=>
   rw[z0l] at hx3
   have hu2:u.toNat<ns.length:=by omega
   have hu3:(0:Int)≤u:=by omega
   have hd:ns.getD u.toNat default=ns[u.toNat]'hu2:=by rw[List.getD_eq_getElem?_getD,List.getElem?_eq_getElem hu2,Option.getD_some]
   have hx4:inr u 0 ((ns.length:Int) - 1)=true:=by rw[z0l]; exact hx3
   obtain⟨⟨n1,n2,n3,n4,n5⟩,hn⟩: ∃nd,ns[u.toNat]'hu2=nd:=⟨_,rfl⟩
   rw[hn] at hd
   by_cases hn1:n1=1
   ·simp[hu2,hu3,hn,x0g,hn1,wi]
    exact hgo2 _ rfl (by rw[hx1,hx4,hd]; simp[hn1])
   ·simp[hu2,hu3,hn,x0g,hn1]
    exact hfal (by rw[hd]; simp[hu,hn1])
end
end Go.Am
