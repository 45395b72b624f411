/- Text 32 for FnExactAhead. -/
import Derived.Test.YtmpnhclbmgjpgaaGreatAhead31
set_option linter.unusedVariables false
set_option linter.unusedSimpArgs false
namespace Go.Am
open Go.Proofs
set_option maxHeartbeats 4000000
set_option maxRecDepth 100000
attribute [-simp] BitVec.toNat_or BitVec.toNat_and BitVec.toNat_ofInt
section
attribute [-simp] z03 z05 z02
theorem h0l {r:TRun} (n:TNode) (h:r.slots≠[]):putF r n = { r with slots:=r.slots.dropLast,tree:=⟨u0i (r.tree.nodes ++ [n]) (r.slots.getLast h).up r.tree.nodes.length⟩ }:=by
 unfold putF
 rw[List.getLast?_eq_some_getLast h]
def upOk (r:TRun) (h:r.slots≠[]):Prop:=(r.slots.getLast h).up = -1∨(0≤(r.slots.getLast h).up∧(r.slots.getLast h).up<r.tree.nodes.length)
theorem h0q {g:TGram} {w:List Int} {r:TRun} (hc:runC g w r=true) (h:r.slots≠[]):upOk r h:=by
 have:=(r0y hc).2 _ (List.getLast_mem h)
 simp only[v0k,Bool.and_eq_true,Bool.or_eq_true,decide_eq_true_eq,z0l] at this
 rcases this.2 with h1 | h1
 ·exact .inl h1
 ·exact .inr (by omega)
theorem e0m {r:TRun} (h:r.slots≠[]): ∃ss s,r.slots=ss ++ [s]:=⟨r.slots.dropLast,r.slots.getLast h,(List.dropLast_concat_getLast h).symm⟩
theorem t11 {c1 c2 c3 c4:Int} {ss:List TSlot} {s:TSlot} {ns:List TNode} {es:List TErr} (n:TNode):putF ⟨c1,c2,c3,c4,ss ++ [s],⟨ns⟩,es⟩ n=⟨c1,c2,c3,c4,ss,⟨u0i (ns ++ [n]) s.up ns.length⟩,es⟩:=by
 rw[h0l n (by simp)]
 simp
def c1r:K:=dc 0x1050b8041e040072fc4a81c04680811c2101003d80e0004bf10a371063e8ae91473a8d7300804338da340400433cca0700ba3200108aa31106268c2e147228bc00421e8181186a2d001085a2c006128085183a2a001082a06046068a000420289c01a70851930000010000000000000000c00800131820803660a60399501259000429060460c10008630012fc8e2006882146860780428172ace81f040172acf7c304509e74004275c0067021462410076c16da0da6400426580066021461410165c004bf17084196541011096542e540445130d34800424821064500010900841890403c60022fc1800000000020a3a923ce04208e349087342e4c04430b0cb28004228210624800108808418a040140e41103daa043172ac10c28ea0430000000000000000001c7568483045cab202007568204040
def j1d:Nat×List RV:=(59,[.c 4 7 true,.t 5])
theorem c_235:z01 PA 235 j1d c1r:=by unfold z01; kernel_rfl
theorem p0i (r:TRun) (n:TNode) (hr:wRun r<2 ^ 31) (hs:r.slots≠[]) (hu:upOk r hs) (hn:y0m n<2 ^ 31):z06 Tryz.prog 235 [.agg (rRun r),.agg (x0m n)] (.tup [(true,rRun (putF r n)),(false,[cI r.tree.nodes.length])]):=by
 refine Prun c_235 (by simp[j1d]) (by simp) ?_
 (conv in c1r=>reduce); unfold j1d
 obtain⟨c1,c2,c3,c4,ss,⟨ns⟩,es⟩:=r
 obtain⟨ss,s,rfl⟩: ∃ss' s,ss=ss' ++ [s]:=e0m (r:=⟨c1,c2,c3,c4,ss,⟨ns⟩,es⟩) hs
 rw[t11]
 obtain⟨n1,n2,n3,n4,n5⟩:=n
 obtain⟨x,u⟩:=s
 simp only[wRun,x0q,z0y] at hr
 simp only[y0m,v09] at hn
 simp[upOk] at hu
 have hls:=z0a x0c ss
 have hln:=z0a y0m ns
 have w1:IntKind.i64.wrap (ss.length:Int)=ss.length:=z08 (by omega) (by omega)
 have hl5:(ss.length:Int)<(ss.length:Int)+1:=by omega
 have hl6:(ss.length:Int)≤(ss.length:Int)+1:=by omega
 have hb:ns.length+1≤4294967296:=by omega
 have hM:List.map x0m ns ++ [[cI n1,cI n2,cI n3,cI n4,C.ar true 3 1 (List.map rI n5)]]=(ns ++ [(⟨n1,n2,n3,n4,n5⟩:TNode)]).map x0m:=by rw[List.map_append]; rfl
 have hMl:(ns ++ [(⟨n1,n2,n3,n4,n5⟩:TNode)]).length=ns.length+1:=by simp
 have hMw:=z0y y0m ns [⟨n1,n2,n3,n4,n5⟩]
 simp only[wL,y0m,v09] at hMw
 simp[rRun,x0m,w1,hl5,hl6,w01,hb]
 rw[hM]
 clear hM
 generalize ns ++ [(⟨n1,n2,n3,n4,n5⟩:TNode)]=M at *
 by_cases hu0:0≤u
 case neg=>
  have e:u0i M u ns.length=M:=by rw[u0i,if_neg hu0]
  rw[e]
  have htk:List.take (ns.length+1) (M.map x0m)=M.map x0m:=by rw[List.take_of_length_le (by simp[hMl])]
  simp[hu0,htk]
 have hum:u.toNat<M.length:=by omega
 have hum':u<M.length:=by omega
 have hM1: ∀ys:List C,ys.length=M.length→True:=fun _ _=>trivial
 have hgd:M.getD u.toNat default=M[u.toNat]'hum:=by rw[List.getD_eq_getElem?_getD,List.getElem?_eq_getElem hum,Option.getD_some]
 have hwu:=z0x y0m M u.toNat hum
 have e:u0i M u ns.length=M.set u.toNat { M[u.toNat]'hum with kids:=(M[u.toNat]'hum).kids ++ [(ns.length:Int)] }:=by rw[u0i,if_pos hu0,hgd]
 rw[e]
 obtain⟨⟨m1,m2,m3,m4,m5⟩,hm⟩: ∃m,M[u.toNat]'hum=m:=⟨_,rfl⟩
 rw[hm] at hwu ⊢
 simp only[y0m,v09] at hwu
 have hb5:m5.length+1≤4294967296:=by omega
 simp[hu0,hum,hum',hm,x0m,hb5]
 rw[List.take_of_length_le (by simp)]
def b1r:K:=dc 0x10433805ca070020400cae0be0004bf1ba04e0d6a82781f8008043399a08e010010cf6281c05e81b8001096a05e0d568200528200241203e014e80b81064a8078038147468180428dc00423e8d8018ea35146368d0d32800024103308ba00e724042a8180081000bb10012fc268c00188a2f1461e898d1a8b6b010a05cab385a2c040172acf1280c11420e8a800420a8a40181a281460289cd9c00260003400080079419640e48c00428e20068a11468603600001c101d7c004bf1f78419e5cd75c0406c259c1406da00109a64419960d6000170002810065815950010955011944d20874c501244004245010640f34f000241005381382e4d04434c0cc2c00422ca1062893490001c1004039043045cab202040
def i1e:Nat×List RV:=(69,[.t 4])
theorem c_282:z01 PA 282 i1e b1r:=by unfold z01; kernel_rfl
theorem n0p (t:Nat) (r:TRun) (n:TNode) (hr:wRun r<2 ^ 31) (hs:r.slots≠[]) (hu:upOk r hs) (hn:y0m n<2 ^ 31):o0s Tryz.prog 282 [.one (.pt 7 1000 [] 0 0),.agg (x0m n)] ⟨t,7,[rRun r]⟩ ⟨t,7,[rRun (putF r n)]⟩ (aI r.tree.nodes.length):=by
 refine q03 c_282 (by simp[i1e]) (by simp) ?_
 (conv in b1r=>reduce); unfold i1e
 obtain⟨c1,c2,c3,c4,ss,⟨ns⟩,es⟩:=r
 obtain⟨ss,s,rfl⟩: ∃ss' s,ss=ss' ++ [s]:=e0m (r:=⟨c1,c2,c3,c4,ss,⟨ns⟩,es⟩) hs
 rw[t11]
 obtain⟨n1,n2,n3,n4,n5⟩:=n
 obtain⟨x,u⟩:=s
 simp only[wRun,x0q,z0y] at hr
 simp only[y0m,v09] at hn
 simp[upOk] at hu
 have hls:=z0a x0c ss
 have hln:=z0a y0m ns
 have w1:IntKind.i64.wrap (ss.length:Int)=ss.length:=z08 (by omega) (by omega)
 have hl5:(ss.length:Int)<(ss.length:Int)+1:=by omega
 have hl6:(ss.length:Int)≤(ss.length:Int)+1:=by omega
 have hb:ns.length+1≤4294967296:=by omega
 have hM:List.map x0m ns ++ [[cI n1,cI n2,cI n3,cI n4,C.ar true 3 1 (List.map rI n5)]]=(ns ++ [(⟨n1,n2,n3,n4,n5⟩:TNode)]).map x0m:=by rw[List.map_append]; rfl
 have hMl:(ns ++ [(⟨n1,n2,n3,n4,n5⟩:TNode)]).length=ns.length+1:=by simp
 have hMw:=z0y y0m ns [⟨n1,n2,n3,n4,n5⟩]
 simp only[wL,y0m,v09] at hMw
 simp[rRun,x0m,w1,hl5,hl6,w01,hb]
 rw[hM]
 clear hM
 generalize ns ++ [(⟨n1,n2,n3,n4,n5⟩:TNode)]=M at *
 by_cases hu0:0≤u
 case neg=>
  have e:u0i M u ns.length=M:=by rw[u0i,if_neg hu0]
  rw[e]
  have htk:List.take (ns.length+1) (M.map x0m)=M.map x0m:=by rw[List.take_of_length_le (by simp[hMl])]
  simp[hu0,htk]
 have hum:u.toNat<M.length:=by omega
 have hum':u<M.length:=by omega
 have hM1: ∀ys:List C,ys.length=M.length→True:=fun _ _=>trivial
 have hgd:M.getD u.toNat default=M[u.toNat]'hum:=by rw[List.getD_eq_getElem?_getD,List.getElem?_eq_getElem hum,Option.getD_some]
 have hwu:=z0x y0m M u.toNat hum
 have e:u0i M u ns.length=M.set u.toNat { M[u.toNat]'hum with kids:=(M[u.toNat]'hum).kids ++ [(ns.length:Int)] }:=by rw[u0i,if_pos hu0,hgd]
 rw[e]
 obtain⟨⟨m1,m2,m3,m4,m5⟩,hm⟩: ∃m,M[u.toNat]'hum=m:=⟨_,rfl⟩
 rw[hm] at hwu ⊢
 simp only[y0m,v09] at hwu
 have hb5:m5.length+1≤4294967296:=by omega
 simp[hu0,hum,hum',hm,x0m,hb5]
end
section
attribute [-simp] z03 z05 z02
def AltT (ps:List (List (List Int))) (w:List Int) (als:List (List Int)) (i m:Nat):Prop:=m=i∨∃al∈als,Tch ps w al i m
theorem x1o {ps:List (List (List Int))} {w:List Int} {als:List (List Int)} {a i m:Nat} (h:a<als.length):AltT ps w (als.take (a+1)) i m↔AltT ps w (als.take a) i m∨Tch ps w als[a] i m:=by
 unfold AltT
 rw[List.take_succ_eq_append_getElem h,or_assoc]
 refine or_congr Iff.rfl ⟨?_,?_⟩
 ·rintro⟨b,h1,h2⟩
  rcases List.mem_append.1 h1 with h1 | h1
  ·exact .inl ⟨b,h1,h2⟩
  ·rw[List.mem_singleton] at h1; subst h1; exact .inr h2
 ·rintro (⟨b,h1,h2⟩ | h2)
  ·exact⟨b,List.mem_append.2 (.inl h1),h2⟩
  ·exact⟨_,List.mem_append.2 (.inr (List.mem_singleton.2 rfl)),h2⟩
def FpJ (g:TGram) (w:List Int) (t:Nat) (als:List (List Int)) (k i:Nat) (n:Nat) (σ:St):Prop:=∃(a b:Nat) (M:WM) (L:FM),a≤als.length∧n=als.length - a∧IsFar (AltT g.parts w (als.take a) i) b∧WOk g w M∧FOk g w L∧
 σ=⟨[(0,.one (.pt 3 1000 [] 0 0)),(1,aI k),(2,aI i),(7,aI b),(8,aI a)],[(1000,l8Ob g w t M L)]⟩
theorem n1a (L:FM) (k i:Nat) (hk:k<L.length) (f:Nat):(L.map farR).set k [.ar true 3 1 ((L[k].map farC).set i [cI f])]=(L.set k (L[k].set i (some f))).map farR:=by
 rw[List.map_set,farR,List.map_set]; rfl
theorem r1f (M:FM) (k i:Nat) (hk:k<M.length) (v:Nat):(M.map donR).set k [.ar true 4 1 ((M[k].map donC).set i [.bool true])]=(M.set k (M[k].set i (some v))).map donR:=by
 rw[List.map_set,donR,List.map_set]; rfl
def a1a:K:=dc 0x10673806ca07002040edbe0004bf2ba1ae19e011eaa02029a18e00042a285f85b80479e80409a85780010a5a14e021a4a13e0d8e8000281011e12e0004bf22a10e0fe011e1a07020a0201fa0ee000427a83783380477680407282f800109ba0ae0119aa09e0d6680002c1008b411680b9b00104a08003047238058a07e2e084a055e81b8178bc3bc1b105a8080568138001094a03e02e011d3a08012a01e00042468038dc11d0a0100fa3600108ea35006368d0018ca3334ba3200108aa31006268c0d2280001e80001a81c0501045000183ac20e8a9e3440a8a43068a000420289e60479c10269400429640069230068e236284004286000681f35f00078800e040000dc81c20401881c2040147005200e410410001dd05d08008100310670171b00109b6990476820196000426175811d70405950010955011944cd4c000b04048249100109140f04740200f38004238d3011cd04030b00108b28218a24d24000a040006039041040
def i1x:Nat×List RV:=(85,[.t 6])
theorem c_312:z01 PA 312 i1x a1a:=by unfold z01; kernel_rfl
theorem r1x (g:TGram) (w:List Int) (t:Nat) (hc:y09 g=0) (hgw:z0q g<2 ^ 31) (hwl:w.length≤10): ∀(n k i:Nat) (M:WM) (L:FM),mu g w k i<n→WOk g w M→FOk g w L→k<g.parts.length→i≤w.length→
 CallsA Tryz.prog 312 [.one (.pt 3 1000 [] 0 0),aI k,aI i] [(1000,⟨t,3,[l8C g w M L]⟩)] (u0z g w t [100+(k:Int)] i):=by
 have hg:=y0t hc
 have hgl:=x0k hg
 intro n
 induction n with
 | zero=>intro k i M L h; omega
 | succ n ih=>
 intro k i M L hm hM hL hk hi
 have hsy:=w0l hg
 have hrow: ∀al∈g.parts[k],∀M L,WOk g w M→FOk g w L→CallsA Tryz.prog 297 [.one (.pt 3 1000 [] 0 0),.one (.ar false 0 1 (al.map rI)),aI i] [(1000,⟨t,3,[l8C g w M L]⟩)] (u0z g w t al i):=by
  intro al hal M L hM hL
  refine v1c g w t al i M L hM hL hc hgw hwl hi ?_ ?_ ?_
  ·have:=w09 hg hk hal; omega
  ·exact (w09 hg hk hal).2
  ·intro pre x post j M L hr hx hd hM hL
   have hlt:=c0d hc hk (hr ▸ hal) hd hx
   have hxk:=hsy _ (List.getElem_mem hk) al hal x (by rw[hr]; simp) hx
   have e:(x - 100:Int)=((prt x:Nat):Int):=by unfold prt; omega
   have e2:x=100+((prt x:Nat):Int):=by unfold prt; omega
   rw[e]
   have:=ih (prt x) j M L (by omega) hM hL hxk hd.le.2
   rwa [← e2] at this
 have hfin: ∀f M L,IsFar (Tch g.parts w [100+(k:Int)] i) f→WOk g w M→FOk g w L→u0z g w t [100+(k:Int)] i (aI f) [(1000,⟨t,3,[l8C g w M L]⟩)]:=fun f M L h h2 h3=>⟨f,M,L,h,h2,h3,rfl,rfl⟩
 have hRe: ∀al r H,u0z g w t al i r H→∃(f:Nat) (M:WM) (L:FM),IsFar (Tch g.parts w al i) f∧WOk g w M∧FOk g w L∧H=[(1000,⟨t,3,[l8C g w M L]⟩)]∧r=aI f:=fun al r H h=>h
 have hga:=u06 hg hk
 have hend: ∀m,Tch g.parts w [100+(k:Int)] i m↔AltT g.parts w g.parts[k] i m:=fun m=>by
  have ep:g.parts.getD (prt (100+(k:Int))) []=g.parts[k]:=by
   have:prt (100+(k:Int))=k:=by unfold prt; omega
   rw[this,List.getD_eq_getElem?_getD,List.getElem?_eq_getElem hk]; rfl
  rw[z1a (by omega) hi,ep]; rfl
 generalize hR:u0z g w t [100+(k:Int)] i=R at hfin ⊢
 clear hR ih hm
 refine q03 c_312 (by simp[i1x]) (by simp) ?_
 (conv in a1a=>reduce); unfold i1x
 obtain⟨ps⟩:=g
 simp only[l8C,l7C] at hrow hfin hRe hend hgl hk hsy hga ⊢
 have hkL:k<L.length:=by have:=hL.len; simp only at this; omega
 have hiL:i<L[k].length:=by have:=hL.row k hkL; omega
 have hkL':(k:Int)<L.length:=by omega
 have hiL':(i:Int)<L[k].length:=by omega
 obtain⟨o,ho⟩: ∃o,L[k][i]=o:=⟨_,rfl⟩
 simp[hkL,hkL',donR,hiL,hiL',ho,donC]
 cases o with
 | some f=>
   have hR:=hfin f M L (hL.ok k i hkL hiL f ho) hM hL
   simp[hkL,hkL',farR,hiL,hiL',ho,farC]
   exact hR
 | none=>
 obtain⟨als,hals⟩: ∃als,ps[k]=als:=⟨_,rfl⟩
 rw[hals] at hrow hend hga
 have hkn:(k:Int)<ps.length:=by omega
 simp
 refine z04 (FpJ ⟨ps⟩ w t als k i) als.length ⟨0,i,M,L,by omega,by simp,(IsFar.one i).congr fun m=>⟨fun h=>h.elim id fun ⟨_,h,_⟩=>by simp at h,.inl⟩,hM,hL,by simp[l8Ob]⟩ ?_
 rintro n σ ⟨a,b,M,L,ha,rfl,hb,hM,hL,rfl⟩
 have hkL:k<L.length:=by have:=hL.len; simp only at this; omega
 have hiL:i<L[k].length:=by have:=hL.row k hkL; omega
 have hkL':(k:Int)<L.length:=by omega
 have hiL':(i:Int)<L[k].length:=by omega
 by_cases h:a<als.length
 case neg=>
  have e:a=als.length:=by omega
  subst e
  rw[List.take_length] at hb
  have hb2:=hb.congr hend
  have hR:=hfin b M _ hb2 hM (hL.put hkL hb2)
  rw[← n1a L k i hkL,← r1f L k i hkL] at hR
  simp[l8Ob,hkn,hk,hals,sISS,farR,farC,hkL,hkL',hiL,hiL',donR,donC]
  exact hR
 have h':(a:Int)<als.length:=by omega
 obtain⟨al,hal⟩: ∃al,als[a]=al:=⟨_,rfl⟩
 have hsn:=fun m=>@x1o ps w als a i m h
 rw[hal] at hsn
 have hrow:=hrow al (by rw[← hal]; exact List.getElem_mem h) M L hM hL
 have wa:IntKind.i64.wrap ((a:Int)+1)=a+1:=z08 (by omega) (by omega)
 simp[l8Ob,hkn,hk,hals,sISS,h,h',hal,sIS]
 refine CallsA.mono hrow ?_
 intro r H hr
 obtain⟨f,M',L',hf,hM',hL',rfl,rfl⟩:=hRe al r H hr
 refine⟨_,rfl,rfl,rfl,.inl rfl,by simp,?_⟩
 have hmx:=i0y b f
 have em:max (b:Int) f=((Nat.max b f:Nat):Int):=by rw[Nat.max_eq_max]; omega
 rw[em] at hmx
 have hb2:=(hb.max hf).congr hsn
 simp
 first | refine z00 hmx (by simp) ?_ | refine z0c hmx (by simp) ?_ | refine z0z hmx (by simp) ?_ | refine z0e hmx rfl rfl (by simp) (by simp) ?_ | refine⟨_,by simp,hmx,?_⟩
 try simp[wa]
 exact⟨als.length - (a+1),by omega,a+1,_,M',L',by omega,rfl,hb2,hM',hL',by simp[l8Ob]⟩
end
section
attribute [-simp] z03 z05 z02
def T8J (tg tm:Nat) (ps:List (List (List Int))) (w:List Int) (C0:C) (n:Nat) (σ:St):Prop:=∃k:Nat,k≤ps.length∧n=ps.length - k∧σ=⟨[(1,.one (.ar false 0 1 (w.map rI))),(2,.one (.pt 1 2 [] 0 0)),(5,.one (.pt 3 11 [] 0 0)),(6,aI k)],[(2,⟨tg,1,[[.ar false 0 1 (ps.map sISS)]]⟩),(11,⟨tm,3,[[C0,.ar true 54 1 (List.replicate k (farR (List.replicate (w.length+1) none))),.ar true 374 1 (List.replicate k (donR (List.replicate (w.length+1) (none:Option Nat))))]]⟩)]⟩
def b1y:K:=dc 0x412d045a050020401920520b94401111800c1aac0012fc128ac2183a20342a299006013ad381a2804004eb4f0289e70010410449670b99801269439410248c00428e20868a136114080500e00021d7c004bf1f78119e4cd75c5c06013a839c6c10013a83db69a0000012010e5682e590046580d80405d600109654119550d5050131403800080011400060d00903cc3443ce0ce340042342006306005040000dcb1850811861420441c01460390410400052c12ca0fb9acb6717f20a24100104eb410c13a80431030142481c23ec1480401c2041086040104f0108007b9aca4217f202040
def i1l:Nat×List RV:=(46,[.t 4])
theorem c_296:z01 PE 296 i1l b1y:=by unfold z01; kernel_rfl
theorem n1o (g:TGram) (w:List Int) (hg:g.parts.length≤20) (hw:w.length<2 ^ 20):z06 Tryz.prog 296 [.agg (z0b g),.one (.ar false 0 1 (w.map rI))] (.one (.op 359 3 (l8C g w (n00 g.parts.length (w.length+1)) (f0w g.parts.length (w.length+1))))):=by
 refine b07 c_296 (by simp[i1l]) (by simp) ?_
 (conv in b1y=>reduce); unfold i1l
 have hnew:=n1n g w hg hw
 obtain⟨ps⟩:=g
 simp only[z0b,l7C] at hnew
 simp only at hg
 simp[z0b]
 first | refine z00 hnew (by simp) ?_ | refine z0c hnew (by simp) ?_ | refine z0z hnew (by simp) ?_ | refine z0e hnew rfl rfl (by simp) (by simp) ?_ | refine⟨_,by simp,hnew,?_⟩
 try simp
 generalize hC:C.op 376 4 [.ar false 0 1 (ps.map sISS),.ar false 0 1 (w.map rI),.ar true 80 1 ((n00 ps.length (w.length+1)).map wayR),.ar true 374 1 ((n00 ps.length (w.length+1)).map donR)]=C0
 generalize hg1:(1000000000+66:Nat)=tg
 generalize hm1:(1000000000+359:Nat)=tm
 simp only[Nat.reduceAdd] at hg1 hm1
 rw[hg1,hm1]
 have h9:1000000000≤tm:=by omega
 have hm:tm - 1000000000=359:=by omega
 refine z04 (T8J tg tm ps w C0) ps.length ⟨0,by omega,by simp,by simp⟩ ?_
 clear hg1 hm1
 rintro n σ ⟨k,hk,rfl,rfl⟩
 by_cases h:k<ps.length
 case neg=>
  have e:k=ps.length:=by omega
  subst e
  subst hC
  simp[l8C,l7C,f0w,h9,hm]
 have w1:IntKind.i64.wrap ((w.length:Int)+1)=w.length+1:=z08 (by omega) (by omega)
 have hb:(0:Int)≤(w.length:Int)+1:=by omega
 have hb2:(w.length:Int)+1≤4294967296:=by omega
 have wk:IntKind.i64.wrap ((k:Int)+1)=k+1:=z08 (by omega) (by omega)
 have hk2:k+1≤4294967296:=by omega
 simp[h,w1,hb,hb2,wk,hk2,farR,donR,farC,donC]
 exact⟨ps.length - (k+1),by omega,k+1,by omega,rfl,by simp[List.replicate_succ',farR,donR,farC,donC]⟩
end
end Go.Am
