/- Text 28 for FnExactAhead. -/
import Derived.Test.YtmpnhclbmgjpgaaGreatAhead27
set_option linter.unusedVariables false
set_option linter.unusedSimpArgs false
namespace Go.Am
open Go.Proofs
set_option maxHeartbeats 4000000
set_option maxRecDepth 100000
attribute [-simp] BitVec.toNat_or BitVec.toNat_and BitVec.toNat_ofInt
section
attribute [-simp] z03 z05 z02
def FarIs (g:TGram) (w row:List Int) (a n:Nat):Prop:=∃E f,Spr g.parts w row a E f∧n=(if E.testBit w.length=true then w.length - a+1 else f - a)
abbrev FarF:=TGram→List Int→List Int→Nat→Nat
def s0e (F:FarF):Prop:=∀g w row a n,FarIs g w row a n→F g w row a=n
theorem FarIs.uniq {g:TGram} {w row:List Int} {a n m:Nat} (h:FarIs g w row a n) (k:FarIs g w row a m):n=m:=by
 obtain⟨E,f,h1,rfl⟩:=h
 obtain⟨E',f',k1,rfl⟩:=k
 obtain⟨rfl,rfl⟩:=h1.uniq k1
 rfl
theorem FarIs.le {g:TGram} {w row:List Int} {a n:Nat} (h:FarIs g w row a n):n≤w.length - a+1:=by
 obtain⟨E,f,h1,rfl⟩:=h
 have:=h1.far_le
 split <;> omega
theorem f1e: ∃F:FarF,s0e F:=by
 classical
 refine⟨fun g w row a=>if h: ∃n,FarIs g w row a n then Classical.choose h else 0,fun g w row a n h=>?_⟩
 have h2: ∃n,FarIs g w row a n:=⟨n,h⟩
 show (if h: ∃n,FarIs g w row a n then Classical.choose h else 0)=n
 rw[dif_pos h2]
 exact (Classical.choose_spec h2).uniq h
def e1r:K:=dc 0x1067c17de74111e08075c00109c1c11850400c419b05b0b968011a6580446420185c35d600109654119550d5000090404c24d23429291524434500010903c118f38d38000d3000423070062080080002c70032fc1c00400000020030c5ad22ca2480c86aa40a080241008000181006039041040
def l1f:Nat×List RV:=(32,[.t 6])
theorem c_145:z01 PA 145 l1f e1r:=by unfold z01; kernel_rfl
theorem f01 {F:FarF} (hF:s0e F) (g:TGram) (w:List Int) (t:Nat) (hc:y09 g=0) (hgw:z0q g<2 ^ 31) (hwl:w.length≤10) (row:List Int) (hrl:row.length<2 ^ 31) (hok:row.all (y0o g.parts.length)=true) (a:Nat) (ha:a≤w.length) (T:List (Nat×Nat×Bool)) (hT:TabOk g w T) :
 CallsA Tryz.prog 145 [.one (.pt 662 1000 [] 0 0),.one (.ar false 0 1 (row.map rI)),aI a] [(1000,⟨t,662,[lkR g w T]⟩)] (fun r H=>∃T',TabOk g w T'∧H=[(1000,⟨t,662,[lkR g w T']⟩)]∧r=aI (F g w row a)∧FarIs g w row a (F g w row a)):=by
 have hsy: ∀x∈row,100≤x→prt x<g.parts.length:=fun x hx h100=>by
  have:=List.all_eq_true.1 hok x hx
  simp only[y0o,Bool.or_eq_true,z0l] at this
  unfold prt; omega
 have hrow:=v1e g w t row a T hT (y0t hc) hwl ha hrl hok (by
  intro pre x post j T hr h100 hd hT
  have hxk:=hsy x (by rw[hr]; simp) h100
  have e:(x - 100:Int)=((prt x:Nat):Int):=by unfold prt; omega
  have e2:x=100+((prt x:Nat):Int):=by unfold prt; omega
  rw[e]
  have:=r1z g w t hc hgw hwl _ (prt x) j T (Nat.lt_succ_self _) hT hxk hd.le.2
  rwa [← e2] at this)
 have hfin: ∀E f T',Spr g.parts w row a E f→TabOk g w T'→∀n,n=(if E.testBit w.length=true then w.length - a+1 else f - a)→∃T'',TabOk g w T''∧[(1000,(⟨t,662,[lkR g w T']⟩:Obj))]=[(1000,⟨t,662,[lkR g w T'']⟩)]∧aI (n:Nat)=aI (F g w row a)∧FarIs g w row a (F g w row a):=fun E f T' h hT' n hn=>⟨T',hT',rfl,by rw[hF g w row a n ⟨E,f,h,hn⟩],by rw[hF g w row a n ⟨E,f,h,hn⟩]; exact⟨E,f,h,hn⟩⟩
 generalize hR:(fun r H=>∃T',TabOk g w T'∧H=[(1000,(⟨t,662,[lkR g w T']⟩:Obj))]∧r=aI (F g w row a)∧FarIs g w row a (F g w row a))=R
 have hfin: ∀E f T',Spr g.parts w row a E f→TabOk g w T'→∀n,n=(if E.testBit w.length=true then w.length - a+1 else f - a)→R (aI (n:Nat)) [(1000,(⟨t,662,[lkR g w T']⟩:Obj))]:=fun E f T' h hT' n hn=>by
  rw[← hR]; exact hfin E f T' h hT' n hn
 clear hR hsy
 refine q03 c_145 (by simp[l1f]) (by simp) ?_
 (conv in e1r=>reduce); unfold l1f
 obtain⟨ps⟩:=g
 simp only[lkR] at hrow hfin ⊢
 simp
 refine CallsA.mono hrow ?_
 rintro r H ⟨E,f,d,T',h1,h2,rfl,rfl⟩
 refine⟨_,rfl,rfl,rfl,.inl rfl,by simp,?_⟩
 have hh:=g0x E (w.length:Int) (by have:=h1.1; omega) (by omega) (by omega)
 rw[Int.toNat_natCast] at hh
 simp[lkR,entC]
 refine⟨_,by simp,hh,?_⟩
 have hb:=h1.far_le
 by_cases c:E.testBit w.length=true
 ·have e:=hfin E f T' h1 h2 (w.length - a+1) (by rw[if_pos c])
  have w1:IntKind.i64.wrap ((w.length:Int) - a)=w.length - a:=z08 (by omega) (by omega)
  have w2:IntKind.i64.wrap ((w.length:Int) - a+1)=w.length - a+1:=z08 (by omega) (by omega)
  have e2:((w.length - a+1:Nat):Int)=(w.length:Int) - a+1:=by omega
  rw[e2] at e
  simp[c,w1,w2]
  exact e
 ·have e:=hfin E f T' h1 h2 (f - a) (by rw[if_neg c])
  have w1:IntKind.i64.wrap ((f:Int) - a)=f - a:=z08 (by omega) (by omega)
  have e2:((f - a:Nat):Int)=(f:Int) - a:=by omega
  rw[e2] at e
  simp[c,w1]
  exact e
end
section
attribute [-simp] z03 z05 z02
def T7J (tg tm:Nat) (ps:List (List (List Int))) (w:List Int) (n:Nat) (σ:St):Prop:=∃k:Nat,k≤ps.length∧n=ps.length - k∧σ=⟨[(1,.one (.ar false 0 1 (w.map rI))),(2,.one (.pt 1 2 [] 0 0)),(5,.one (.pt 4 10 [] 0 0)),(6,aI k)],[(2,⟨tg,1,[[.ar false 0 1 (ps.map sISS)]]⟩),(10,⟨tm,4,[[.ar false 0 1 (ps.map sISS),.ar false 0 1 (w.map rI),.ar true 80 1 (List.replicate k (wayR (List.replicate (w.length+1) none))),.ar true 374 1 (List.replicate k (donR (List.replicate (w.length+1) (none:Option (List Int)))))]]⟩)]⟩
def a19:K:=dc 0x104b01128140081006441442e50004406003069ac004bf03a2a0c60a87cd068a2301804eb4e0289c10013ad3e79a60010410449660b99401259039010238800428a10c68603601407c500e00021c78004bf1e74219d48d71b580601a2839b681001a283da65904304305804ea25642e580046170d70405950010955021944cd4c50121403800080011400060cf08f38b34438d0cd3000423020062c6005040000dca1850811861420441c014603904104000528128913b9acb7817f2092010470400813ad043068a010c10c10c1a280431005080401c2041085040104f0108007b9aca4217f202040
def i1w:Nat×List RV:=(45,[.t 4])
theorem c_311:z01 PE 311 i1w a19:=by unfold z01; kernel_rfl
theorem n1n (g:TGram) (w:List Int) (hg:g.parts.length≤20) (hw:w.length<2 ^ 20):z06 Tryz.prog 311 [.agg (z0b g),.one (.ar false 0 1 (w.map rI))] (.one (.op 376 4 (l7C g w (n00 g.parts.length (w.length+1))))):=by
 refine b07 c_311 (by simp[i1w]) (by simp) ?_
 (conv in a19=>reduce); unfold i1w
 obtain⟨ps⟩:=g
 simp only at hg
 simp[z0b]
 generalize hg1:(1000000000+66:Nat)=tg
 generalize hm1:(1000000000+376:Nat)=tm
 simp only[Nat.reduceAdd] at hg1 hm1
 rw[hg1,hm1]
 have h9:1000000000≤tm:=by omega
 have hm:tm - 1000000000=376:=by omega
 refine z04 (T7J tg tm ps w) ps.length ⟨0,by omega,by simp,by simp⟩ ?_
 clear hg1 hm1
 rintro n σ ⟨k,hk,rfl,rfl⟩
 by_cases h:k<ps.length
 case neg=>
  have e:k=ps.length:=by omega
  subst e
  simp[l7C,n00,h9,hm]
 have w1:IntKind.i64.wrap ((w.length:Int)+1)=w.length+1:=z08 (by omega) (by omega)
 have hb:(0:Int)≤(w.length:Int)+1:=by omega
 have hb2:(w.length:Int)+1≤4294967296:=by omega
 have wk:IntKind.i64.wrap ((k:Int)+1)=k+1:=z08 (by omega) (by omega)
 have hk2:k+1≤4294967296:=by omega
 simp[h,w1,hb,hb2,wk,hk2,wayR,donR,wayC,donC]
 exact⟨ps.length - (k+1),by omega,k+1,by omega,rfl,by simp[List.replicate_succ',wayR,donR,wayC,donC]⟩
end
section
attribute [-simp] z03 z05 z02
def k_26:K:=dc 0x41fb046678069a18e00042a285f80069e85b8366a0a0060400c41fa046578065a080030405380a4a13e098e84b80010a2a11e021a1a10e0d8282801410002e8040a02e670049cb0030437e83b82b8178138105e1ea019e8a5ea0de0be002010ce6e80000433dda000b904ce0159ca0c01aa09e000426682380066281f81b80875e82c05a80405682805280c10423000080f8093a3a0b80382a0ab90783444a8428f42011a10a3d428dc03e8eb6c4ad742c43a8268f4200da09a3dcc0042328268f40e720472e8268f4c00aa09a3d268c00228039bcf107a2e0c6a0c00e04032d045a2c001084a2b0460e8aa90870a82c00680401810031400860e60a69633449640e40408cb004040000de22ca20308120b2880c20461c214b03904104000a8818a10d6a4887b0420400428a80430a2a010c30140c10095c15c2e56004589003043107e811a00602000c101f09f78979d6029a815d70004271b0466da6421da2406410180c10422080080011400060d50955123445130d3040489004040000dc9203081189203081147005240e410410000c41fa046441448003040402400e4f3043ce065a053830410830400083413400028a83c20401fa0460a2a010fc0430016a8203040
def r_26:Nat×List RV:=(82,[.t 6,.t 7])
theorem c_26:z01 PA 26 r_26 k_26:=by unfold z01; kernel_rfl
theorem k0g (g:TGram) (cs:List TConf) (x:Int) (hw:z0q g<2 ^ 31) (hl:x0d g) (hn:wL y0f cs<2 ^ 31):CallsA Tryz.prog 26 [.agg (z0b g),.one (.ar false 0 2 (cs.map z0k)),aI x] [] (SetP (s0v g cs x)):=by
 have hck:=t0j g hw hl
 have hlen:=z0a y0f cs
 have hkn:=fun i (h:i<cs.length)=>t0v g cs[i].row hw (by have:=z0x y0f cs i h; simp only[y0f,v09] at this; omega)
 have hno:s0v g cs x=none→SetP (s0v g cs x) k0m []:=fun h=>by rw[h]; exact⟨rfl,true,rfl⟩
 have hsm: ∀b S,s0v g cs x=some S→SetP (s0v g cs x) (.tup [(false,[cS b S]),(false,[.bool true])]) []:=fun b S h=>by rw[h]; exact⟨rfl,b,rfl⟩
 have e1:y09 g=0→s0v g cs x=q07 g cs x:=fun h=>by simp[s0v,h]
 have e2: ¬y09 g=0→s0v g cs x=none:=fun h=>by simp[s0v,h]
 have hyes:v0l g.parts.length cs=true→q07 g cs x=q0j g.parts (t05 cs x):=fun h=>by simp[q07,h]
 have hnot:v0l g.parts.length cs=false→q07 g cs x=none:=fun h=>by simp[q07,h]
 generalize s0v g cs x=o at *
 generalize hQ:SetP o=Q at *
 simp only[k0m] at hno
 refine q03 c_26 (by simp[r_26]) (by simp) ?_
 (conv in k_26=>reduce); unfold r_26
 obtain⟨ps⟩:=g
 simp only[z0b] at hck hkn
 simp only at hkn hyes hnot
 simp[z0b]
 refine z00 hck (by simp) ?_
 by_cases c:y09 ⟨ps⟩=0
 case neg=>
  have hno:=hno (e2 c)
  simp[c]
  exact hno
 have hg:=j01 c
 have e1:=e1 c
 rw[e1] at hno hsm
 have hkd:v0l ps.length cs=(cs.drop 0).all (fun c=>rowK ps.length c.row):=by simp[v0l]
 have hknS: ∀i (h:i<cs.length),v0l ps.length cs=true→rowK ps.length cs[i].row=true:=fun i h hk=>by
  simp only[v0l,List.all_eq_true] at hk
  exact hk _ (List.getElem_mem h)
 have hmo:v0l ps.length cs=true→∀i,∀d∈t05 (cs.take i) x,d.row.all (y0o ps.length)=true∧d.row.length≤200:=fun hk i=>h09 (by
  simp only[v0l,List.all_eq_true] at hk ⊢
  exact fun c hc=>hk c (List.mem_of_mem_take hc))
 simp[c]
 refine z04 (fun n σ=>∃(i:Nat),i≤cs.length∧n=cs.length - i∧v0l ps.length cs=(cs.drop i).all (fun c=>rowK ps.length c.row)∧σ=⟨[(1,.one (.ar false 0 2 (cs.map z0k))),(2,aI x),(3,.one (.pt 1 3 [] 0 0)),(8,.one (.vw 74 2 8 [] 0 0)),(9,aI i)],[(3,⟨66,1,[[.ar false 0 1 (ps.map sISS)]]⟩),(8,⟨74,2,[]⟩)]⟩) (cs.length) ⟨0,by omega,rfl,hkd,by simp⟩ ?_
 rintro n σ ⟨i,hi,rfl,ht,rfl⟩
 by_cases h:i<cs.length
 case pos=>
  rw[x05 h] at ht
  have wi:IntKind.i64.wrap ((i:Int)+1)=i+1:=z08 (by omega) (by omega)
  have hkn:=hkn i h
  obtain⟨c,hc⟩: ∃c,cs[i]=c:=⟨_,rfl⟩
  rw[hc] at hkn ht
  obtain⟨alt,row⟩:=c
  simp only at hkn ht
  simp[h,hc,z0k]
  refine⟨_,by simp,hkn,?_⟩
  cases c1:rowK ps.length row with
  | false=>
    have:=hno (hnot (by rw[ht,c1]; simp))
    simp
    exact this
  | true=>
    rw[c1,Bool.true_and] at ht
    simp
    exact⟨cs.length - (i+1),by omega,i+1,by omega,rfl,ht,by rw[wi]; simp⟩
 have hi':i=cs.length:=by omega
 subst hi'
 rw[x0w h] at ht
 have e3:=hyes ht
 have hmo:=hmo ht
 have hknS:=fun i h=>hknS i h ht
 simp[z0k]
 refine z04 (WorkI ps (fun i=>t05 (cs.take i) x) cs.length (fun i=>[(1,.one (.ar false 0 2 (cs.map z0k))),(2,aI x),(3,.one (.pt 1 3 [] 0 0)),(8,.one (.vw 74 2 8 [] 0 0)),(10,.one (.pt 3 34 [] 0 0)),(11,aI i)]) [(3,⟨66,1,[[.ar false 0 1 (ps.map sISS)]]⟩),(8,⟨74,2,[]⟩)] 34) cs.length ⟨0,true,true,[],[],true,by omega,rfl,.inl ⟨rfl,by simpa [t05] using Part.nil⟩,by simp[wkO]⟩ ?_
 clear hi h
 rintro n σ ⟨i,bs,bw,S,W,ok,hi,rfl,hC,rfl⟩
 by_cases h:i<cs.length
 case neg=>
  have hi':i=cs.length:=by omega
  subst hi'
  simp only[List.take_length] at hC
  rcases hC with⟨hb,hP⟩ | ⟨hb,hM⟩
  ·have:ok=true:=by simpa using hb
   subst this
   have hs:=hsm bs S (by rw[e3,j03 hP.done])
   cases bs <;> simp[wkO] <;> simp at hs <;> exact hs
  ·have:ok=false:=by simpa using hb
   subst this
   have hs:=hno (by rw[e3,j02 hM])
   simp[wkO]
   exact hs
 have wi:IntKind.i64.wrap ((i:Int)+1)=i+1:=z08 (by omega) (by omega)
 have hms:=j0e cs x i h
 have hcl:=m0p ⟨ps⟩ hg hw (t05 (cs.take (i+1)) x) (fun c hc=>(hmo (i+1) c hc).1) 201 []
 have hkr:=hknS i h
 obtain⟨c,hc⟩: ∃c,cs[i]=c:=⟨_,rfl⟩
 rw[hc] at hms hkr
 obtain⟨alt,row⟩:=c
 have hsame:mvC x ⟨alt,row⟩=[]→Clo ps (t05 (cs.take (i+1)) x) [] S W (!ok):=fun e=>by rw[hms,e,List.append_nil]; exact hC
 have hnext: ∀r,mvC x ⟨alt,row⟩=[⟨alt,r⟩]→Clo ps (t05 (cs.take (i+1)) x) ([] ++ [⟨alt,r⟩]) S W (!ok):=fun r e=>by
  rw[hms,e]
  rcases hC with⟨h1,h2⟩ | ⟨h1,h2⟩
  ·exact .inl ⟨h1,h2.next _⟩
  ·exact .inr ⟨h1,h2.mono fun x hx=>List.mem_append_left _ hx⟩
 cases row with
 | nil=>
   have hs:=hsame (by simp[mvC])
   simp[h,hc,z0k,wkO]
   exact⟨cs.length - (i+1),by omega,i+1,bs,bw,S,W,ok,by omega,rfl,hs,by simp[wi,wkO,z0k]⟩
 | cons y r=>
   have n1:(0:Int)<r.length+1:=by omega
   have n2:(1:Int)≤r.length+1:=by omega
   simp only at hkr
   have hrl:r.length≤199:=by simp only[rowK,Bool.and_eq_true,decide_eq_true_eq,List.length_cons] at hkr; omega
   have hb1:r.length≤4294967296:=by omega
   by_cases c2:y=x
   ·have hlt:=u1a hkr c2
    by_cases c3:x<100
    ·have hcall:=hcl ⟨alt,r⟩ S W bs bw ok (hnext r (by simp[mvC,c2,hlt,c3])) (fun _=>by omega) (by simp; omega)
     simp only[z0b] at hcall
     simp[h,hc,z0k,wkO,n1,n2,c2,c3,hb1]
     refine CallsA.mono hcall ?_
     rintro r1 H1 ⟨bs2,bw2,S3,W3,ok3,rfl,rfl,hC3,hW3⟩
     refine⟨_,rfl,rfl,rfl,.inl rfl,by simp,?_⟩
     simp
     exact⟨cs.length - (i+1),by omega,i+1,bs2,bw2,S3,W3,ok3,by omega,rfl,hC3,by simp[wi,wkO,z0k]⟩
    ·have hs:=hsame (by simp[mvC,c2,hlt,c3])
     simp[h,hc,z0k,wkO,n1,n2,c2,c3]
     exact⟨cs.length - (i+1),by omega,i+1,bs,bw,S,W,ok,by omega,rfl,hs,by simp[wi,wkO,z0k]⟩
   ·have hs:=hsame (by simp[mvC,c2])
    simp[h,hc,z0k,wkO,n1,n2,c2]
    exact⟨cs.length - (i+1),by omega,i+1,bs,bw,S,W,ok,by omega,rfl,hs,by simp[wi,wkO,z0k]⟩
end
end Go.Am
